/-
  DERIVED. GIVEN WITH THE SEED: THE CARDS: each row of YtpdnhfkacgdocaaGreatDoorRows.lean that lists a variable, with what it lists TIED to the program's text (the seventh form; the later family's looks); each row that meets fmt, with fmt's text TOLD by the authors' own Lean function (tested against real Go, not proved from fmt's source: count such statements apart). THE CARD IS WHAT COUNTS. Prove the row's statement (the work); the ties are given (YtpdnhfkacgdocaaGreatDoorTie.lean); close each card by the builder's one call (the guide's Derived/Test/ToyasCard.lean, 'card_holds'). Laid BY PROGRAM, IN A SANDBOX (cutbox-door.mjs). By AI agents, Wed Nov 11 2026. No macro, syntax, notation, axiom, sorry.
-/
import Derived.Test.YtpdnhfkacgdocaaGreatDoorRows
import GoSem.ClaimSeven
namespace Go.Proofs.YtpdnhfkacgdocaaGreatDoor
namespace Rows

/-- THE TIED CARD OF 'affidavitlaw17.PatchApplies'. -/
def patchAppliesCard : Claim7 := { stood := { row := patchAppliesRow, standIns := [], harness := (true, "68166db259b099ad27eac90863e1ff8fa6a301a6ee2f049374542dd11267933d"), looks := true }, kinds := [], alts := [], laidByText := true, laidKinds := [.data, .data, .data, .data, .sentinel, .sentinel, .pinned], laidTests := true, laidLooks := .later }
def PatchAppliesCardSaid : Prop := Claim7.holds Tryz.pinned (.plain (OpenSpec.ofChange patchAppliesSpec)) patchAppliesCard

/-- THE TIED CARD OF 'affidavitlaw17.PatchInverts'. -/
def patchInvertsCard : Claim7 := { stood := { row := patchInvertsRow, standIns := [], harness := (true, "68166db259b099ad27eac90863e1ff8fa6a301a6ee2f049374542dd11267933d"), looks := true }, kinds := [], alts := [], laidByText := true, laidKinds := [.data, .data, .data, .data, .sentinel, .sentinel, .pinned], laidTests := true, laidLooks := .later }
def PatchInvertsCardSaid : Prop := Claim7.holds Tryz.pinned (.plain (OpenSpec.ofChange patchInvertsSpec)) patchInvertsCard

/-- THE SECOND FORM's CARD OF 'affidavitlaw17.PatchApplies'. -/
def patchAppliesUptoCard : Claim7 := { stood := { row := patchAppliesUptoRow, standIns := [], harness := (true, "68166db259b099ad27eac90863e1ff8fa6a301a6ee2f049374542dd11267933d"), looks := true }, kinds := [], alts := [], laidByText := true, laidKinds := [.data, .data, .data, .data, .sentinel, .sentinel, .pinned], laidTests := true, laidLooks := .later }
def PatchAppliesUptoCardSaid : Prop := Claim7.holds Tryz.pinned (.plain (OpenSpec.upto patchAppliesSpec)) patchAppliesUptoCard

/-- THE SECOND FORM's CARD OF 'affidavitlaw17.PatchInverts'. -/
def patchInvertsUptoCard : Claim7 := { stood := { row := patchInvertsUptoRow, standIns := [], harness := (true, "68166db259b099ad27eac90863e1ff8fa6a301a6ee2f049374542dd11267933d"), looks := true }, kinds := [], alts := [], laidByText := true, laidKinds := [.data, .data, .data, .data, .sentinel, .sentinel, .pinned], laidTests := true, laidLooks := .later }
def PatchInvertsUptoCardSaid : Prop := Claim7.holds Tryz.pinned (.plain (OpenSpec.upto patchInvertsSpec)) patchInvertsUptoCard
end Rows
end Go.Proofs.YtpdnhfkacgdocaaGreatDoor
