/-
  DERIVED. GIVEN WITH THE SEED: THE CARDS: each row of YtknmacdbffgjgaaGreatDoorRows.lean that lists a variable, with what it lists TIED to the program's text (the seventh form; the later family's looks); each row that meets fmt, with fmt's text TOLD by the authors' own Lean function (tested against real Go, not proved from fmt's source: count such statements apart). THE CARD IS WHAT COUNTS. Prove the row's statement (the work); the ties are given (YtknmacdbffgjgaaGreatDoorTie.lean); close each card by the builder's one call (the guide's Derived/Test/ToyasCard.lean, 'card_holds'). Laid BY PROGRAM, IN A SANDBOX (cutbox-door.mjs). By AI agents, Wed Nov 11 2026. No macro, syntax, notation, axiom, sorry.
-/
import Derived.Test.YtknmacdbffgjgaaGreatDoorRows
import GoSem.ClaimSeven
namespace Go.Proofs.YtknmacdbffgjgaaGreatDoor
namespace Rows

/-- THE TIED CARD OF 'cosignerlaw04.FlatConflicts'. -/
def flatConflictsCard : Claim7 := { stood := { row := flatConflictsRow, standIns := [], harness := (true, "b3c11169216a9a39c8124190423c0826cbc5ba8a3212fe890d39a78fb2ff4d0c"), looks := false }, kinds := [], alts := [], laidByText := true, laidKinds := [.listed, .data], laidTests := true, laidLooks := .later }
def FlatConflictsCardSaid : Prop := Claim7.holds Tryz.pinned (.plain (OpenSpec.ofChange flatConflictsSpec)) flatConflictsCard

/-- THE TIED CARD OF 'cosignerlaw04.FlatOrder'. -/
def flatOrderCard : Claim7 := { stood := { row := flatOrderRow, standIns := [], harness := (true, "b3c11169216a9a39c8124190423c0826cbc5ba8a3212fe890d39a78fb2ff4d0c"), looks := false }, kinds := [], alts := [], laidByText := true, laidKinds := [.listed, .data], laidTests := true, laidLooks := .later }
def FlatOrderCardSaid : Prop := Claim7.holds Tryz.pinned (.plain (OpenSpec.ofChange flatOrderSpec)) flatOrderCard

/-- THE TIED CARD OF 'cosignerlaw04.FlatRenames'. -/
def flatRenamesCard : Claim7 := { stood := { row := flatRenamesRow, standIns := [], harness := (true, "b3c11169216a9a39c8124190423c0826cbc5ba8a3212fe890d39a78fb2ff4d0c"), looks := false }, kinds := [], alts := [], laidByText := true, laidKinds := [.listed, .data], laidTests := true, laidLooks := .later }
def FlatRenamesCardSaid : Prop := Claim7.holds Tryz.pinned (.plain (OpenSpec.ofChange flatRenamesSpec)) flatRenamesCard

/-- THE TIED CARD OF 'cosignerlaw04.FlatContracts'. -/
def flatContractsCard : Claim7 := { stood := { row := flatContractsRow, standIns := [], harness := (true, "b3c11169216a9a39c8124190423c0826cbc5ba8a3212fe890d39a78fb2ff4d0c"), looks := false }, kinds := [], alts := [], laidByText := true, laidKinds := [.listed, .data], laidTests := true, laidLooks := .later }
def FlatContractsCardSaid : Prop := Claim7.holds Tryz.pinned (.plain (OpenSpec.ofChange flatContractsSpec)) flatContractsCard

/-- THE TIED CARD OF 'cosignerlaw04.FlatTurned'. -/
def flatTurnedCard : Claim7 := { stood := { row := flatTurnedRow, standIns := [], harness := (true, "b3c11169216a9a39c8124190423c0826cbc5ba8a3212fe890d39a78fb2ff4d0c"), looks := false }, kinds := [], alts := [], laidByText := true, laidKinds := [.listed, .data], laidTests := true, laidLooks := .later }
def FlatTurnedCardSaid : Prop := Claim7.holds Tryz.pinned (.plain (OpenSpec.ofChange flatTurnedSpec)) flatTurnedCard

/-- THE TIED CARD OF 'cosignerlaw04.FlatAllSeeds'. -/
def flatAllSeedsCard : Claim7 := { stood := { row := flatAllSeedsRow, standIns := [], harness := (true, "b3c11169216a9a39c8124190423c0826cbc5ba8a3212fe890d39a78fb2ff4d0c"), looks := false }, kinds := [], alts := [], laidByText := true, laidKinds := [.listed, .data], laidTests := true, laidLooks := .later }
def FlatAllSeedsCardSaid : Prop := Claim7.holds Tryz.pinned (.plain (OpenSpec.ofChange flatAllSeedsSpec)) flatAllSeedsCard

/-- THE TIED CARD OF 'cosignerlaw04.FlatProof'. -/
def flatProofCard : Claim7 := { stood := { row := flatProofRow, standIns := [], harness := (true, "b3c11169216a9a39c8124190423c0826cbc5ba8a3212fe890d39a78fb2ff4d0c"), looks := false }, kinds := [], alts := [], laidByText := true, laidKinds := [.listed, .data], laidTests := true, laidLooks := .later }
def FlatProofCardSaid : Prop := Claim7.holds Tryz.pinned (.plain (OpenSpec.ofChange flatProofSpec)) flatProofCard

/-- THE SECOND FORM's CARD OF 'cosignerlaw04.FlatConflicts'. -/
def flatConflictsUptoCard : Claim7 := { stood := { row := flatConflictsUptoRow, standIns := [], harness := (true, "b3c11169216a9a39c8124190423c0826cbc5ba8a3212fe890d39a78fb2ff4d0c"), looks := false }, kinds := [], alts := [], laidByText := true, laidKinds := [.listed, .data], laidTests := true, laidLooks := .later }
def FlatConflictsUptoCardSaid : Prop := Claim7.holds Tryz.pinned (.plain (OpenSpec.upto flatConflictsSpec)) flatConflictsUptoCard

/-- THE SECOND FORM's CARD OF 'cosignerlaw04.FlatOrder'. -/
def flatOrderUptoCard : Claim7 := { stood := { row := flatOrderUptoRow, standIns := [], harness := (true, "b3c11169216a9a39c8124190423c0826cbc5ba8a3212fe890d39a78fb2ff4d0c"), looks := false }, kinds := [], alts := [], laidByText := true, laidKinds := [.listed, .data], laidTests := true, laidLooks := .later }
def FlatOrderUptoCardSaid : Prop := Claim7.holds Tryz.pinned (.plain (OpenSpec.upto flatOrderSpec)) flatOrderUptoCard

/-- THE SECOND FORM's CARD OF 'cosignerlaw04.FlatRenames'. -/
def flatRenamesUptoCard : Claim7 := { stood := { row := flatRenamesUptoRow, standIns := [], harness := (true, "b3c11169216a9a39c8124190423c0826cbc5ba8a3212fe890d39a78fb2ff4d0c"), looks := false }, kinds := [], alts := [], laidByText := true, laidKinds := [.listed, .data], laidTests := true, laidLooks := .later }
def FlatRenamesUptoCardSaid : Prop := Claim7.holds Tryz.pinned (.plain (OpenSpec.upto flatRenamesSpec)) flatRenamesUptoCard

/-- THE SECOND FORM's CARD OF 'cosignerlaw04.FlatContracts'. -/
def flatContractsUptoCard : Claim7 := { stood := { row := flatContractsUptoRow, standIns := [], harness := (true, "b3c11169216a9a39c8124190423c0826cbc5ba8a3212fe890d39a78fb2ff4d0c"), looks := false }, kinds := [], alts := [], laidByText := true, laidKinds := [.listed, .data], laidTests := true, laidLooks := .later }
def FlatContractsUptoCardSaid : Prop := Claim7.holds Tryz.pinned (.plain (OpenSpec.upto flatContractsSpec)) flatContractsUptoCard

/-- THE SECOND FORM's CARD OF 'cosignerlaw04.FlatTurned'. -/
def flatTurnedUptoCard : Claim7 := { stood := { row := flatTurnedUptoRow, standIns := [], harness := (true, "b3c11169216a9a39c8124190423c0826cbc5ba8a3212fe890d39a78fb2ff4d0c"), looks := false }, kinds := [], alts := [], laidByText := true, laidKinds := [.listed, .data], laidTests := true, laidLooks := .later }
def FlatTurnedUptoCardSaid : Prop := Claim7.holds Tryz.pinned (.plain (OpenSpec.upto flatTurnedSpec)) flatTurnedUptoCard

/-- THE SECOND FORM's CARD OF 'cosignerlaw04.FlatAllSeeds'. -/
def flatAllSeedsUptoCard : Claim7 := { stood := { row := flatAllSeedsUptoRow, standIns := [], harness := (true, "b3c11169216a9a39c8124190423c0826cbc5ba8a3212fe890d39a78fb2ff4d0c"), looks := false }, kinds := [], alts := [], laidByText := true, laidKinds := [.listed, .data], laidTests := true, laidLooks := .later }
def FlatAllSeedsUptoCardSaid : Prop := Claim7.holds Tryz.pinned (.plain (OpenSpec.upto flatAllSeedsSpec)) flatAllSeedsUptoCard

/-- THE SECOND FORM's CARD OF 'cosignerlaw04.FlatProof'. -/
def flatProofUptoCard : Claim7 := { stood := { row := flatProofUptoRow, standIns := [], harness := (true, "b3c11169216a9a39c8124190423c0826cbc5ba8a3212fe890d39a78fb2ff4d0c"), looks := false }, kinds := [], alts := [], laidByText := true, laidKinds := [.listed, .data], laidTests := true, laidLooks := .later }
def FlatProofUptoCardSaid : Prop := Claim7.holds Tryz.pinned (.plain (OpenSpec.upto flatProofSpec)) flatProofUptoCard
end Rows
end Go.Proofs.YtknmacdbffgjgaaGreatDoor
