/-
  DERIVED. GIVEN WITH THE SEED: THE CARDS: each row of YtkfnkppdhcaeoaaGreatDoorRows.lean that lists a variable, with what it lists TIED to the program's text (the seventh form; the later family's looks); each row that meets fmt, with fmt's text TOLD by the authors' own Lean function (tested against real Go, not proved from fmt's source: count such statements apart). THE CARD IS WHAT COUNTS. Prove the row's statement (the work); the ties are given (YtkfnkppdhcaeoaaGreatDoorTie.lean); close each card by the builder's one call (the guide's Derived/Test/ToyasCard.lean, 'card_holds'). Laid BY PROGRAM, IN A SANDBOX (cutbox-door.mjs). By AI agents, Wed Nov 11 2026. No macro, syntax, notation, axiom, sorry.
-/
import Derived.Test.YtkfnkppdhcaeoaaGreatDoorRows
import GoSem.ClaimSeven
namespace Go.Proofs.YtkfnkppdhcaeoaaGreatDoor
namespace Rows

/-- THE TIED CARD OF 'affidavitlaw17.PatchApplies'. -/
def patchAppliesCard : Claim7 := { stood := { row := patchAppliesRow, standIns := [], harness := (true, "3dfc8c58cc852e14f432f4e7a83d49e35ecce63d6a3fa5350c5083e8d7cb04ce"), looks := true }, kinds := [], alts := [], laidByText := true, laidKinds := [.data, .data, .data, .data, .sentinel, .sentinel, .pinned], laidTests := true, laidLooks := .later }
def PatchAppliesCardSaid : Prop := Claim7.holds Tryz.pinned (.plain (OpenSpec.ofChange patchAppliesSpec)) patchAppliesCard

/-- THE TIED CARD OF 'affidavitlaw17.PatchInverts'. -/
def patchInvertsCard : Claim7 := { stood := { row := patchInvertsRow, standIns := [], harness := (true, "3dfc8c58cc852e14f432f4e7a83d49e35ecce63d6a3fa5350c5083e8d7cb04ce"), looks := true }, kinds := [], alts := [], laidByText := true, laidKinds := [.data, .data, .data, .data, .sentinel, .sentinel, .pinned], laidTests := true, laidLooks := .later }
def PatchInvertsCardSaid : Prop := Claim7.holds Tryz.pinned (.plain (OpenSpec.ofChange patchInvertsSpec)) patchInvertsCard

/-- THE TIED CARD OF 'affidavitlaw17.PatchJoined'. -/
def patchJoinedCard : Claim7 := { stood := { row := patchJoinedRow, standIns := [], harness := (true, "3dfc8c58cc852e14f432f4e7a83d49e35ecce63d6a3fa5350c5083e8d7cb04ce"), looks := true }, kinds := [], alts := [], laidByText := true, laidKinds := [.data, .data, .data, .data, .sentinel, .sentinel, .pinned], laidTests := true, laidLooks := .later }
def PatchJoinedCardSaid : Prop := Claim7.holds Tryz.pinned (.plain (OpenSpec.ofChange patchJoinedSpec)) patchJoinedCard

/-- THE TIED CARD OF 'affidavitlaw17.PatchTells'. -/
def patchTellsCard : Claim7 := { stood := { row := patchTellsRow, standIns := [], harness := (true, "3dfc8c58cc852e14f432f4e7a83d49e35ecce63d6a3fa5350c5083e8d7cb04ce"), looks := true }, kinds := [], alts := [], laidByText := true, laidKinds := [.data, .data, .data, .data, .sentinel, .sentinel, .widerDeep, .pinned], laidTests := true, laidLooks := .later }
def PatchTellsCardSaid : Prop := Claim7.holds Tryz.pinned (.plain (OpenSpec.ofChange patchTellsSpec)) patchTellsCard

/-- THE TIED CARD OF 'affidavitlaw17.PatchWhole'. -/
def patchWholeCard : Claim7 := { stood := { row := patchWholeRow, standIns := [], harness := (true, "3dfc8c58cc852e14f432f4e7a83d49e35ecce63d6a3fa5350c5083e8d7cb04ce"), looks := true }, kinds := [], alts := [], laidByText := true, laidKinds := [.data, .data, .data, .data, .sentinel, .sentinel, .pinned], laidTests := true, laidLooks := .later }
def PatchWholeCardSaid : Prop := Claim7.holds Tryz.pinned (.plain (OpenSpec.ofChange patchWholeSpec)) patchWholeCard

/-- THE TIED CARD OF 'affidavitlaw17.PatchKnown'. -/
def patchKnownCard : Claim7 := { stood := { row := patchKnownRow, standIns := [], harness := (true, "3dfc8c58cc852e14f432f4e7a83d49e35ecce63d6a3fa5350c5083e8d7cb04ce"), looks := true }, kinds := [], alts := [], laidByText := true, laidKinds := [.data, .data, .data, .data, .sentinel, .sentinel, .widerDeep, .pinned], laidTests := true, laidLooks := .later }
def PatchKnownCardSaid : Prop := Claim7.holds Tryz.pinned (.plain (OpenSpec.ofChange patchKnownSpec)) patchKnownCard

/-- THE TIED CARD OF 'affidavitlaw17.PatchReads'. -/
def patchReadsCard : Claim7 := { stood := { row := patchReadsRow, standIns := [], harness := (true, "3dfc8c58cc852e14f432f4e7a83d49e35ecce63d6a3fa5350c5083e8d7cb04ce"), looks := true }, kinds := [], alts := [], laidByText := true, laidKinds := [.data, .data, .data, .data, .sentinel, .sentinel, .widerDeep, .pinned], laidTests := true, laidLooks := .later }
def PatchReadsCardSaid : Prop := Claim7.holds Tryz.pinned (.plain (OpenSpec.ofChange patchReadsSpec)) patchReadsCard

/-- THE TIED CARD OF 'affidavitlaw17.PatchBack'. -/
def patchBackCard : Claim7 := { stood := { row := patchBackRow, standIns := [], harness := (true, "3dfc8c58cc852e14f432f4e7a83d49e35ecce63d6a3fa5350c5083e8d7cb04ce"), looks := true }, kinds := [], alts := [], laidByText := true, laidKinds := [.data, .data, .data, .data, .sentinel, .sentinel, .widerDeep, .pinned], laidTests := true, laidLooks := .later }
def PatchBackCardSaid : Prop := Claim7.holds Tryz.pinned (.plain (OpenSpec.ofChange patchBackSpec)) patchBackCard

/-- THE TIED CARD OF 'affidavitlaw17.PatchFresh'. -/
def patchFreshCard : Claim7 := { stood := { row := patchFreshRow, standIns := [], harness := (true, "3dfc8c58cc852e14f432f4e7a83d49e35ecce63d6a3fa5350c5083e8d7cb04ce"), looks := true }, kinds := [], alts := [], laidByText := true, laidKinds := [.data, .data, .data, .data, .sentinel, .sentinel, .widerDeep, .pinned], laidTests := true, laidLooks := .later }
def PatchFreshCardSaid : Prop := Claim7.holds Tryz.pinned (.plain (OpenSpec.ofChange patchFreshSpec)) patchFreshCard

/-- THE SECOND FORM's CARD OF 'affidavitlaw17.PatchApplies'. -/
def patchAppliesUptoCard : Claim7 := { stood := { row := patchAppliesUptoRow, standIns := [], harness := (true, "3dfc8c58cc852e14f432f4e7a83d49e35ecce63d6a3fa5350c5083e8d7cb04ce"), looks := true }, kinds := [], alts := [], laidByText := true, laidKinds := [.data, .data, .data, .data, .sentinel, .sentinel, .pinned], laidTests := true, laidLooks := .later }
def PatchAppliesUptoCardSaid : Prop := Claim7.holds Tryz.pinned (.plain (OpenSpec.upto patchAppliesSpec)) patchAppliesUptoCard

/-- THE SECOND FORM's CARD OF 'affidavitlaw17.PatchInverts'. -/
def patchInvertsUptoCard : Claim7 := { stood := { row := patchInvertsUptoRow, standIns := [], harness := (true, "3dfc8c58cc852e14f432f4e7a83d49e35ecce63d6a3fa5350c5083e8d7cb04ce"), looks := true }, kinds := [], alts := [], laidByText := true, laidKinds := [.data, .data, .data, .data, .sentinel, .sentinel, .pinned], laidTests := true, laidLooks := .later }
def PatchInvertsUptoCardSaid : Prop := Claim7.holds Tryz.pinned (.plain (OpenSpec.upto patchInvertsSpec)) patchInvertsUptoCard

/-- THE SECOND FORM's CARD OF 'affidavitlaw17.PatchJoined'. -/
def patchJoinedUptoCard : Claim7 := { stood := { row := patchJoinedUptoRow, standIns := [], harness := (true, "3dfc8c58cc852e14f432f4e7a83d49e35ecce63d6a3fa5350c5083e8d7cb04ce"), looks := true }, kinds := [], alts := [], laidByText := true, laidKinds := [.data, .data, .data, .data, .sentinel, .sentinel, .pinned], laidTests := true, laidLooks := .later }
def PatchJoinedUptoCardSaid : Prop := Claim7.holds Tryz.pinned (.plain (OpenSpec.upto patchJoinedSpec)) patchJoinedUptoCard

/-- THE SECOND FORM's CARD OF 'affidavitlaw17.PatchTells'. -/
def patchTellsUptoCard : Claim7 := { stood := { row := patchTellsUptoRow, standIns := [], harness := (true, "3dfc8c58cc852e14f432f4e7a83d49e35ecce63d6a3fa5350c5083e8d7cb04ce"), looks := true }, kinds := [], alts := [], laidByText := true, laidKinds := [.data, .data, .data, .data, .sentinel, .sentinel, .widerDeep, .pinned], laidTests := true, laidLooks := .later }
def PatchTellsUptoCardSaid : Prop := Claim7.holds Tryz.pinned (.plain (OpenSpec.upto patchTellsSpec)) patchTellsUptoCard

/-- THE SECOND FORM's CARD OF 'affidavitlaw17.PatchWhole'. -/
def patchWholeUptoCard : Claim7 := { stood := { row := patchWholeUptoRow, standIns := [], harness := (true, "3dfc8c58cc852e14f432f4e7a83d49e35ecce63d6a3fa5350c5083e8d7cb04ce"), looks := true }, kinds := [], alts := [], laidByText := true, laidKinds := [.data, .data, .data, .data, .sentinel, .sentinel, .pinned], laidTests := true, laidLooks := .later }
def PatchWholeUptoCardSaid : Prop := Claim7.holds Tryz.pinned (.plain (OpenSpec.upto patchWholeSpec)) patchWholeUptoCard

/-- THE SECOND FORM's CARD OF 'affidavitlaw17.PatchKnown'. -/
def patchKnownUptoCard : Claim7 := { stood := { row := patchKnownUptoRow, standIns := [], harness := (true, "3dfc8c58cc852e14f432f4e7a83d49e35ecce63d6a3fa5350c5083e8d7cb04ce"), looks := true }, kinds := [], alts := [], laidByText := true, laidKinds := [.data, .data, .data, .data, .sentinel, .sentinel, .widerDeep, .pinned], laidTests := true, laidLooks := .later }
def PatchKnownUptoCardSaid : Prop := Claim7.holds Tryz.pinned (.plain (OpenSpec.upto patchKnownSpec)) patchKnownUptoCard

/-- THE SECOND FORM's CARD OF 'affidavitlaw17.PatchReads'. -/
def patchReadsUptoCard : Claim7 := { stood := { row := patchReadsUptoRow, standIns := [], harness := (true, "3dfc8c58cc852e14f432f4e7a83d49e35ecce63d6a3fa5350c5083e8d7cb04ce"), looks := true }, kinds := [], alts := [], laidByText := true, laidKinds := [.data, .data, .data, .data, .sentinel, .sentinel, .widerDeep, .pinned], laidTests := true, laidLooks := .later }
def PatchReadsUptoCardSaid : Prop := Claim7.holds Tryz.pinned (.plain (OpenSpec.upto patchReadsSpec)) patchReadsUptoCard

/-- THE SECOND FORM's CARD OF 'affidavitlaw17.PatchBack'. -/
def patchBackUptoCard : Claim7 := { stood := { row := patchBackUptoRow, standIns := [], harness := (true, "3dfc8c58cc852e14f432f4e7a83d49e35ecce63d6a3fa5350c5083e8d7cb04ce"), looks := true }, kinds := [], alts := [], laidByText := true, laidKinds := [.data, .data, .data, .data, .sentinel, .sentinel, .widerDeep, .pinned], laidTests := true, laidLooks := .later }
def PatchBackUptoCardSaid : Prop := Claim7.holds Tryz.pinned (.plain (OpenSpec.upto patchBackSpec)) patchBackUptoCard

/-- THE SECOND FORM's CARD OF 'affidavitlaw17.PatchFresh'. -/
def patchFreshUptoCard : Claim7 := { stood := { row := patchFreshUptoRow, standIns := [], harness := (true, "3dfc8c58cc852e14f432f4e7a83d49e35ecce63d6a3fa5350c5083e8d7cb04ce"), looks := true }, kinds := [], alts := [], laidByText := true, laidKinds := [.data, .data, .data, .data, .sentinel, .sentinel, .widerDeep, .pinned], laidTests := true, laidLooks := .later }
def PatchFreshUptoCardSaid : Prop := Claim7.holds Tryz.pinned (.plain (OpenSpec.upto patchFreshSpec)) patchFreshUptoCard
end Rows
end Go.Proofs.YtkfnkppdhcaeoaaGreatDoor
