/-
  DERIVED. GIVEN WITH THE SEED: THE CARDS: each row of YtlbggefccgpgaaaDoorRows.lean that lists a variable, with what it lists TIED to the program's text (the seventh form; the later family's looks); each row that meets fmt, with fmt's text TOLD by the authors' own Lean function (tested against real Go, not proved from fmt's source: count such statements apart). THE CARD IS WHAT COUNTS. Prove the row's statement (the work); the ties are given (YtlbggefccgpgaaaDoorTie.lean); close each card by the builder's one call (the guide's Derived/Test/ToyasCard.lean, 'card_holds'). Laid BY PROGRAM, IN A SANDBOX (cutbox-door.mjs). By AI agents, Wed Nov 11 2026. No macro, syntax, notation, axiom, sorry.
-/
import Derived.Test.YtlbggefccgpgaaaDoorRows
import GoSem.ClaimSeven
namespace Go.Proofs.YtlbggefccgpgaaaDoor
namespace Rows

/-- THE TIED CARD OF 'laws.FnExactParseLetters'. -/
def fnExactParseLettersCard : Claim7 := { stood := { row := fnExactParseLettersRow, standIns := [], harness := (true, "7f487d0ce317798b66efc058c114e118404ecaa536d72147386de853b036bb3d"), looks := false }, kinds := [], alts := [], laidByText := true, laidKinds := [.data, .pinned], laidTests := true, laidLooks := .later }
def FnExactParseLettersCardSaid : Prop := Claim7.holds Tryd.pinned (.plain (OpenSpec.ofChange fnExactParseLettersSpec)) fnExactParseLettersCard

/-- THE TIED CARD OF 'laws.FnExactParseRuns'. -/
def fnExactParseRunsCard : Claim7 := { stood := { row := fnExactParseRunsRow, standIns := [], harness := (true, "7f487d0ce317798b66efc058c114e118404ecaa536d72147386de853b036bb3d"), looks := false }, kinds := [], alts := [], laidByText := true, laidKinds := [.data, .data, .data], laidTests := true, laidLooks := .later }
def FnExactParseRunsCardSaid : Prop := Claim7.holds Tryd.pinned (.plain (OpenSpec.ofChange fnExactParseRunsSpec)) fnExactParseRunsCard

/-- THE SECOND FORM's CARD OF 'laws.FnExactParseLetters'. -/
def fnExactParseLettersUptoCard : Claim7 := { stood := { row := fnExactParseLettersUptoRow, standIns := [], harness := (true, "7f487d0ce317798b66efc058c114e118404ecaa536d72147386de853b036bb3d"), looks := false }, kinds := [], alts := [], laidByText := true, laidKinds := [.data, .pinned], laidTests := true, laidLooks := .later }
def FnExactParseLettersUptoCardSaid : Prop := Claim7.holds Tryd.pinned (.plain (OpenSpec.upto fnExactParseLettersSpec)) fnExactParseLettersUptoCard

/-- THE SECOND FORM's CARD OF 'laws.FnExactParseRuns'. -/
def fnExactParseRunsUptoCard : Claim7 := { stood := { row := fnExactParseRunsUptoRow, standIns := [], harness := (true, "7f487d0ce317798b66efc058c114e118404ecaa536d72147386de853b036bb3d"), looks := false }, kinds := [], alts := [], laidByText := true, laidKinds := [.data, .data, .data], laidTests := true, laidLooks := .later }
def FnExactParseRunsUptoCardSaid : Prop := Claim7.holds Tryd.pinned (.plain (OpenSpec.upto fnExactParseRunsSpec)) fnExactParseRunsUptoCard
end Rows
end Go.Proofs.YtlbggefccgpgaaaDoor
