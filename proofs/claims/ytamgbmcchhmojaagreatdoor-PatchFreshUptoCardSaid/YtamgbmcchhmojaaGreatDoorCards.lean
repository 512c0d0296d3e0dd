/-
  DERIVED. GIVEN WITH THE SEED: THE CARDS: each row of YtamgbmcchhmojaaGreatDoorRows.lean that lists a variable, with what it lists TIED to the program's text (the seventh form; the later family's looks); each row that meets fmt, with fmt's text TOLD by the authors' own Lean function (tested against real Go, not proved from fmt's source: count such statements apart). THE CARD IS WHAT COUNTS. Prove the row's statement (the work); the ties are given (YtamgbmcchhmojaaGreatDoorTie.lean); close each card by the builder's one call (the guide's Derived/Test/ToyasCard.lean, 'card_holds'). Laid BY PROGRAM, IN A SANDBOX (cutbox-door.mjs). By AI agents, Wed Nov 11 2026. No macro, syntax, notation, axiom, sorry.
-/
import Derived.Test.YtamgbmcchhmojaaGreatDoorRows
import GoSem.ClaimSeven
namespace Go.Proofs.YtamgbmcchhmojaaGreatDoor
namespace Rows

/-- THE TIED CARD OF 'affidavitlaw17.PatchFresh'. -/
def patchFreshCard : Claim7 := { stood := { row := patchFreshRow, standIns := [], harness := (true, "93f78b5b7357104fc4872beeb87337d77730bb64593ed411ebf3e5815f189aa2"), looks := true }, kinds := [], alts := [], laidByText := true, laidKinds := [.data, .data, .data, .data, .sentinel, .sentinel, .widerDeep, .pinned], laidTests := true, laidLooks := .later }
def PatchFreshCardSaid : Prop := Claim7.holds Tryz.pinned (.plain (OpenSpec.ofChange patchFreshSpec)) patchFreshCard

/-- THE SECOND FORM's CARD OF 'affidavitlaw17.PatchFresh'. -/
def patchFreshUptoCard : Claim7 := { stood := { row := patchFreshUptoRow, standIns := [], harness := (true, "93f78b5b7357104fc4872beeb87337d77730bb64593ed411ebf3e5815f189aa2"), looks := true }, kinds := [], alts := [], laidByText := true, laidKinds := [.data, .data, .data, .data, .sentinel, .sentinel, .widerDeep, .pinned], laidTests := true, laidLooks := .later }
def PatchFreshUptoCardSaid : Prop := Claim7.holds Tryz.pinned (.plain (OpenSpec.upto patchFreshSpec)) patchFreshUptoCard
end Rows
end Go.Proofs.YtamgbmcchhmojaaGreatDoor
