/-
  DERIVED. GIVEN WITH THE SEED: THE CARDS: each row of YtlonnkmfjijddaaGreatDoorRows.lean that lists a variable, with what it lists TIED to the program's text (the seventh form; the later family's looks); each row that meets fmt, with fmt's text TOLD by the authors' own Lean function (tested against real Go, not proved from fmt's source: count such statements apart). THE CARD IS WHAT COUNTS. Prove the row's statement (the work); the ties are given (YtlonnkmfjijddaaGreatDoorTie.lean); close each card by the builder's one call (the guide's Derived/Test/ToyasCard.lean, 'card_holds'). Laid BY PROGRAM, IN A SANDBOX (cutbox-door.mjs). By AI agents, Wed Nov 11 2026. No macro, syntax, notation, axiom, sorry.
-/
import Derived.Test.YtlonnkmfjijddaaGreatDoorRows
import GoSem.ClaimSeven
namespace Go.Proofs.YtlonnkmfjijddaaGreatDoor
namespace Rows

/-- THE TIED CARD OF 'laws.FnExactBuildIndex'. -/
def fnExactBuildIndexCard : Claim7 := { stood := { row := fnExactBuildIndexRow, standIns := [], harness := (true, "1760e0218c5891d74dadfa0c0515ed9e326b6b81fded053fd9e3aaeee47e6328"), looks := false }, kinds := [], alts := [], laidByText := true, laidKinds := [.data, .data, .data], laidTests := true, laidLooks := .later }
def FnExactBuildIndexCardSaid : Prop := Claim7.holds Tryz.pinned (.plain (OpenSpec.ofChange fnExactBuildIndexSpec)) fnExactBuildIndexCard

/-- THE SECOND FORM's CARD OF 'laws.FnExactBuildIndex'. -/
def fnExactBuildIndexUptoCard : Claim7 := { stood := { row := fnExactBuildIndexUptoRow, standIns := [], harness := (true, "1760e0218c5891d74dadfa0c0515ed9e326b6b81fded053fd9e3aaeee47e6328"), looks := false }, kinds := [], alts := [], laidByText := true, laidKinds := [.data, .data, .data], laidTests := true, laidLooks := .later }
def FnExactBuildIndexUptoCardSaid : Prop := Claim7.holds Tryz.pinned (.plain (OpenSpec.upto fnExactBuildIndexSpec)) fnExactBuildIndexUptoCard
end Rows
end Go.Proofs.YtlonnkmfjijddaaGreatDoor
