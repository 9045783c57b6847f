/-
  DERIVED. GIVEN WITH THE SEED: THE CARDS: each row of YtlibhkkckgkkkaaGreatDoorRows.lean that lists a variable, with what it lists TIED to the program's text (the seventh form; the later family's looks); each row that meets fmt, with fmt's text TOLD by the authors' own Lean function (tested against real Go, not proved from fmt's source: count such statements apart). THE CARD IS WHAT COUNTS. Prove the row's statement (the work); the ties are given (YtlibhkkckgkkkaaGreatDoorTie.lean); close each card by the builder's one call (the guide's Derived/Test/ToyasCard.lean, 'card_holds'). Laid BY PROGRAM, IN A SANDBOX (cutbox-door.mjs). By AI agents, Wed Nov 11 2026. No macro, syntax, notation, axiom, sorry.
-/
import Derived.Test.YtlibhkkckgkkkaaGreatDoorRows
import GoSem.ClaimSeven
namespace Go.Proofs.YtlibhkkckgkkkaaGreatDoor
namespace Rows

/-- THE TIED CARD OF 'hagglertop.TopFeeds'. -/
def topFeedsCard : Claim7 := { stood := { row := topFeedsRow, standIns := [], harness := (true, "b5d8660ecb28bb8221815a97bce24200d74f737e6100c0eaa54f742e95e4a045"), looks := true }, kinds := [], alts := [], laidByText := true, laidKinds := [.data, .data, .data, .data, .sentinel, .sentinel, .pinned], laidTests := true, laidLooks := .later }
def TopFeedsCardSaid : Prop := Claim7.holds Tryz.pinned (.plain (OpenSpec.ofChange topFeedsSpec)) topFeedsCard

/-- THE SECOND FORM's CARD OF 'hagglertop.TopFeeds'. -/
def topFeedsUptoCard : Claim7 := { stood := { row := topFeedsUptoRow, standIns := [], harness := (true, "b5d8660ecb28bb8221815a97bce24200d74f737e6100c0eaa54f742e95e4a045"), looks := true }, kinds := [], alts := [], laidByText := true, laidKinds := [.data, .data, .data, .data, .sentinel, .sentinel, .pinned], laidTests := true, laidLooks := .later }
def TopFeedsUptoCardSaid : Prop := Claim7.holds Tryz.pinned (.plain (OpenSpec.upto topFeedsSpec)) topFeedsUptoCard
end Rows
end Go.Proofs.YtlibhkkckgkkkaaGreatDoor
