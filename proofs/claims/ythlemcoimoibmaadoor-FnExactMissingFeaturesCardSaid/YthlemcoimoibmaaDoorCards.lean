/-
  DERIVED. GIVEN WITH THE SEED: THE CARDS: each row of YthlemcoimoibmaaDoorRows.lean that lists a variable, with what it lists TIED to the program's text (the seventh form; the later family's looks); each row that meets fmt, with fmt's text TOLD by the authors' own Lean function (tested against real Go, not proved from fmt's source: count such statements apart). THE CARD IS WHAT COUNTS. Prove the row's statement (the work); the ties are given (YthlemcoimoibmaaDoorTie.lean); close each card by the builder's one call (the guide's Derived/Test/ToyasCard.lean, 'card_holds'). Laid BY PROGRAM, IN A SANDBOX (cutbox-door.mjs). By AI agents, Wed Nov 11 2026. No macro, syntax, notation, axiom, sorry.
-/
import Derived.Test.YthlemcoimoibmaaDoorRows
import GoSem.ClaimSeven
namespace Go.Proofs.YthlemcoimoibmaaDoor
namespace Rows

/-- THE TIED CARD OF 'laws.FnExactIsFeature'. -/
def fnExactIsFeatureCard : Claim7 := { stood := { row := fnExactIsFeatureRow, standIns := [], harness := (true, "e7004459618b8156b15ed6e3648f4a6fb884fb564aa4d420b29cbea24272ad60"), looks := false }, kinds := [], alts := [], laidByText := true, laidKinds := [.data, .data, .data], laidTests := true, laidLooks := .later }
def FnExactIsFeatureCardSaid : Prop := Claim7.holds Tryd.pinned (.plain (OpenSpec.ofChange fnExactIsFeatureSpec)) fnExactIsFeatureCard

/-- THE TIED CARD OF 'laws.FnExactFeaturesOf'. -/
def fnExactFeaturesOfCard : Claim7 := { stood := { row := fnExactFeaturesOfRow, standIns := [], harness := (true, "e7004459618b8156b15ed6e3648f4a6fb884fb564aa4d420b29cbea24272ad60"), looks := false }, kinds := [], alts := [], laidByText := true, laidKinds := [.data, .data, .data], laidTests := true, laidLooks := .later }
def FnExactFeaturesOfCardSaid : Prop := Claim7.holds Tryd.pinned (.plain (OpenSpec.ofChange fnExactFeaturesOfSpec)) fnExactFeaturesOfCard

/-- THE TIED CARD OF 'laws.FnExactMissingFeatures'. -/
def fnExactMissingFeaturesCard : Claim7 := { stood := { row := fnExactMissingFeaturesRow, standIns := [], harness := (true, "e7004459618b8156b15ed6e3648f4a6fb884fb564aa4d420b29cbea24272ad60"), looks := false }, kinds := [], alts := [], laidByText := true, laidKinds := [.data, .data, .data], laidTests := true, laidLooks := .later }
def FnExactMissingFeaturesCardSaid : Prop := Claim7.holds Tryd.pinned (.plain (OpenSpec.ofChange fnExactMissingFeaturesSpec)) fnExactMissingFeaturesCard

/-- THE SECOND FORM's CARD OF 'laws.FnExactIsFeature'. -/
def fnExactIsFeatureUptoCard : Claim7 := { stood := { row := fnExactIsFeatureUptoRow, standIns := [], harness := (true, "e7004459618b8156b15ed6e3648f4a6fb884fb564aa4d420b29cbea24272ad60"), looks := false }, kinds := [], alts := [], laidByText := true, laidKinds := [.data, .data, .data], laidTests := true, laidLooks := .later }
def FnExactIsFeatureUptoCardSaid : Prop := Claim7.holds Tryd.pinned (.plain (OpenSpec.upto fnExactIsFeatureSpec)) fnExactIsFeatureUptoCard

/-- THE SECOND FORM's CARD OF 'laws.FnExactFeaturesOf'. -/
def fnExactFeaturesOfUptoCard : Claim7 := { stood := { row := fnExactFeaturesOfUptoRow, standIns := [], harness := (true, "e7004459618b8156b15ed6e3648f4a6fb884fb564aa4d420b29cbea24272ad60"), looks := false }, kinds := [], alts := [], laidByText := true, laidKinds := [.data, .data, .data], laidTests := true, laidLooks := .later }
def FnExactFeaturesOfUptoCardSaid : Prop := Claim7.holds Tryd.pinned (.plain (OpenSpec.upto fnExactFeaturesOfSpec)) fnExactFeaturesOfUptoCard

/-- THE SECOND FORM's CARD OF 'laws.FnExactMissingFeatures'. -/
def fnExactMissingFeaturesUptoCard : Claim7 := { stood := { row := fnExactMissingFeaturesUptoRow, standIns := [], harness := (true, "e7004459618b8156b15ed6e3648f4a6fb884fb564aa4d420b29cbea24272ad60"), looks := false }, kinds := [], alts := [], laidByText := true, laidKinds := [.data, .data, .data], laidTests := true, laidLooks := .later }
def FnExactMissingFeaturesUptoCardSaid : Prop := Claim7.holds Tryd.pinned (.plain (OpenSpec.upto fnExactMissingFeaturesSpec)) fnExactMissingFeaturesUptoCard
end Rows
end Go.Proofs.YthlemcoimoibmaaDoor
