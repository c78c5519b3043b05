/-
  DERIVED. GIVEN WITH THE SEED: THE CARDS: each row of YtmjgogklalploaaGreatDoorRows.lean that lists a variable, with what it lists TIED to the program's text (the seventh form; the later family's looks); each row that meets fmt, with fmt's text TOLD by the authors' own Lean function (tested against real Go, not proved from fmt's source: count such statements apart). THE CARD IS WHAT COUNTS. Prove the row's statement (the work); the ties are given (YtmjgogklalploaaGreatDoorTie.lean); close each card by the builder's one call (the guide's Derived/Test/ToyasCard.lean, 'card_holds'). Laid BY PROGRAM, IN A SANDBOX (cutbox-door.mjs). By AI agents, Wed Nov 11 2026. No macro, syntax, notation, axiom, sorry.
-/
import Derived.Test.YtmjgogklalploaaGreatDoorRows
import GoSem.ClaimSeven
namespace Go.Proofs.YtmjgogklalploaaGreatDoor
namespace Rows

/-- THE TIED CARD OF 'laws.FnExactSimilarGrants'. -/
def fnExactSimilarGrantsCard : Claim7 := { stood := { row := fnExactSimilarGrantsRow, standIns := [], harness := (true, "1900fbff649bf6d2b2339b3b2830efd10f7d52df7b27e7fe3e085f5aeb0a7a66"), looks := false }, kinds := [], alts := [], laidByText := true, laidKinds := [.data, .data, .data], laidTests := true, laidLooks := .later }
def FnExactSimilarGrantsCardSaid : Prop := Claim7.holds Tryz.pinned (.plain (OpenSpec.ofChange fnExactSimilarGrantsSpec)) fnExactSimilarGrantsCard

/-- THE TIED CARD OF 'laws.FnExactSearchAny'. -/
def fnExactSearchAnyCard : Claim7 := { stood := { row := fnExactSearchAnyRow, standIns := [], harness := (true, "1900fbff649bf6d2b2339b3b2830efd10f7d52df7b27e7fe3e085f5aeb0a7a66"), looks := false }, kinds := [], alts := [], laidByText := true, laidKinds := [.data, .data, .data], laidTests := true, laidLooks := .later }
def FnExactSearchAnyCardSaid : Prop := Claim7.holds Tryz.pinned (.plain (OpenSpec.ofChange fnExactSearchAnySpec)) fnExactSearchAnyCard

/-- THE TIED CARD OF 'laws.FnExactBuildIndex'. -/
def fnExactBuildIndexCard : Claim7 := { stood := { row := fnExactBuildIndexRow, standIns := [], harness := (true, "1900fbff649bf6d2b2339b3b2830efd10f7d52df7b27e7fe3e085f5aeb0a7a66"), looks := false }, kinds := [], alts := [], laidByText := true, laidKinds := [.data, .data, .data], laidTests := true, laidLooks := .later }
def FnExactBuildIndexCardSaid : Prop := Claim7.holds Tryz.pinned (.plain (OpenSpec.ofChange fnExactBuildIndexSpec)) fnExactBuildIndexCard

/-- THE SECOND FORM's CARD OF 'laws.FnExactSimilarGrants'. -/
def fnExactSimilarGrantsUptoCard : Claim7 := { stood := { row := fnExactSimilarGrantsUptoRow, standIns := [], harness := (true, "1900fbff649bf6d2b2339b3b2830efd10f7d52df7b27e7fe3e085f5aeb0a7a66"), looks := false }, kinds := [], alts := [], laidByText := true, laidKinds := [.data, .data, .data], laidTests := true, laidLooks := .later }
def FnExactSimilarGrantsUptoCardSaid : Prop := Claim7.holds Tryz.pinned (.plain (OpenSpec.upto fnExactSimilarGrantsSpec)) fnExactSimilarGrantsUptoCard

/-- THE SECOND FORM's CARD OF 'laws.FnExactSearchAny'. -/
def fnExactSearchAnyUptoCard : Claim7 := { stood := { row := fnExactSearchAnyUptoRow, standIns := [], harness := (true, "1900fbff649bf6d2b2339b3b2830efd10f7d52df7b27e7fe3e085f5aeb0a7a66"), looks := false }, kinds := [], alts := [], laidByText := true, laidKinds := [.data, .data, .data], laidTests := true, laidLooks := .later }
def FnExactSearchAnyUptoCardSaid : Prop := Claim7.holds Tryz.pinned (.plain (OpenSpec.upto fnExactSearchAnySpec)) fnExactSearchAnyUptoCard

/-- THE SECOND FORM's CARD OF 'laws.FnExactBuildIndex'. -/
def fnExactBuildIndexUptoCard : Claim7 := { stood := { row := fnExactBuildIndexUptoRow, standIns := [], harness := (true, "1900fbff649bf6d2b2339b3b2830efd10f7d52df7b27e7fe3e085f5aeb0a7a66"), looks := false }, kinds := [], alts := [], laidByText := true, laidKinds := [.data, .data, .data], laidTests := true, laidLooks := .later }
def FnExactBuildIndexUptoCardSaid : Prop := Claim7.holds Tryz.pinned (.plain (OpenSpec.upto fnExactBuildIndexSpec)) fnExactBuildIndexUptoCard
end Rows
end Go.Proofs.YtmjgogklalploaaGreatDoor
