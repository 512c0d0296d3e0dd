/-
  DERIVED. GIVEN WITH THE SEED: THE CARDS: each row of YtfdhgakalojahaaGreatDoorRows.lean that lists a variable, with what it lists TIED to the program's text (the seventh form; the later family's looks); each row that meets fmt, with fmt's text TOLD by the authors' own Lean function (tested against real Go, not proved from fmt's source: count such statements apart). THE CARD IS WHAT COUNTS. Prove the row's statement (the work); the ties are given (YtfdhgakalojahaaGreatDoorTie.lean); close each card by the builder's one call (the guide's Derived/Test/ToyasCard.lean, 'card_holds'). Laid BY PROGRAM, IN A SANDBOX (cutbox-door.mjs). By AI agents, Wed Nov 11 2026. No macro, syntax, notation, axiom, sorry.
-/
import Derived.Test.YtfdhgakalojahaaGreatDoorRows
import GoSem.ClaimSeven
namespace Go.Proofs.YtfdhgakalojahaaGreatDoor
namespace Rows

/-- THE TIED CARD OF 'affidavitlaw30.WitnessTells'. -/
def witnessTellsCard : Claim7 := { stood := { row := witnessTellsRow, standIns := [], harness := (true, "2bd05c716c4f2b85882e34168f942449240290e1381553556b59529193f3a40e"), looks := true }, kinds := [], alts := [], laidByText := true, laidKinds := [.data, .data], laidTests := true, laidLooks := .later }
def WitnessTellsCardSaid : Prop := Claim7.holds Tryz.pinned (.plain (OpenSpec.ofChange witnessTellsSpec)) witnessTellsCard

/-- THE TIED CARD OF 'affidavitlaw30.WitnessReads'. -/
def witnessReadsCard : Claim7 := { stood := { row := witnessReadsRow, standIns := [], harness := (true, "2bd05c716c4f2b85882e34168f942449240290e1381553556b59529193f3a40e"), looks := true }, kinds := [], alts := [], laidByText := true, laidKinds := [.data, .data], laidTests := true, laidLooks := .later }
def WitnessReadsCardSaid : Prop := Claim7.holds Tryz.pinned (.plain (OpenSpec.ofChange witnessReadsSpec)) witnessReadsCard

/-- THE SECOND FORM's CARD OF 'affidavitlaw30.WitnessTells'. -/
def witnessTellsUptoCard : Claim7 := { stood := { row := witnessTellsUptoRow, standIns := [], harness := (true, "2bd05c716c4f2b85882e34168f942449240290e1381553556b59529193f3a40e"), looks := true }, kinds := [], alts := [], laidByText := true, laidKinds := [.data, .data], laidTests := true, laidLooks := .later }
def WitnessTellsUptoCardSaid : Prop := Claim7.holds Tryz.pinned (.plain (OpenSpec.upto witnessTellsSpec)) witnessTellsUptoCard

/-- THE SECOND FORM's CARD OF 'affidavitlaw30.WitnessReads'. -/
def witnessReadsUptoCard : Claim7 := { stood := { row := witnessReadsUptoRow, standIns := [], harness := (true, "2bd05c716c4f2b85882e34168f942449240290e1381553556b59529193f3a40e"), looks := true }, kinds := [], alts := [], laidByText := true, laidKinds := [.data, .data], laidTests := true, laidLooks := .later }
def WitnessReadsUptoCardSaid : Prop := Claim7.holds Tryz.pinned (.plain (OpenSpec.upto witnessReadsSpec)) witnessReadsUptoCard
end Rows
end Go.Proofs.YtfdhgakalojahaaGreatDoor
