/-
  DERIVED. GIVEN WITH THE SEED: THE CARDS: each row of YtenaadmifppphaaGreatDoorRows.lean that lists a variable, with what it lists TIED to the program's text (the seventh form; the later family's looks); each row that meets fmt, with fmt's text TOLD by the authors' own Lean function (tested against real Go, not proved from fmt's source: count such statements apart). THE CARD IS WHAT COUNTS. Prove the row's statement (the work); the ties are given (YtenaadmifppphaaGreatDoorTie.lean); close each card by the builder's one call (the guide's Derived/Test/ToyasCard.lean, 'card_holds'). Laid BY PROGRAM, IN A SANDBOX (cutbox-door.mjs). By AI agents, Wed Nov 11 2026. No macro, syntax, notation, axiom, sorry.
-/
import Derived.Test.YtenaadmifppphaaGreatDoorRows
import GoSem.ClaimSeven
namespace Go.Proofs.YtenaadmifppphaaGreatDoor
namespace Rows

/-- THE TIED CARD OF 'laws.FnPictures'. -/
def fnPicturesCard : Claim7 := { stood := { row := fnPicturesRow, standIns := [], harness := (true, "307c70554158eccc67c5c0b2dbca944898cb0767281053a1f43e1a9095da4805"), looks := false }, kinds := [], alts := [], laidByText := true, laidKinds := [.data, .data, .data, .data, .pinned], laidTests := true, laidLooks := .later }
def FnPicturesCardSaid : Prop := Claim7.holds Tryz.pinned (.plain (OpenSpec.ofChange fnPicturesSpec)) fnPicturesCard

/-- THE SECOND FORM's CARD OF 'laws.FnPictures'. -/
def fnPicturesUptoCard : Claim7 := { stood := { row := fnPicturesUptoRow, standIns := [], harness := (true, "307c70554158eccc67c5c0b2dbca944898cb0767281053a1f43e1a9095da4805"), looks := false }, kinds := [], alts := [], laidByText := true, laidKinds := [.data, .data, .data, .data, .pinned], laidTests := true, laidLooks := .later }
def FnPicturesUptoCardSaid : Prop := Claim7.holds Tryz.pinned (.plain (OpenSpec.upto fnPicturesSpec)) fnPicturesUptoCard
end Rows
end Go.Proofs.YtenaadmifppphaaGreatDoor
