/-
  No cell of these rows narrows 'for every input' (looked for: loops, veiled, ifaces, maps, wideKeys, modest, calm, conditions, laid).
  DERIVED. THE GIVEN ROWS OF THIS SEAT. 12 by the template 'for every input the law returns true; each argument reads behind the call as it read before'; 0 by the template 'total and deterministic' (their statements: YticfcbfoieklgaaTotals.lean).
  GIVEN WITH THE SEED: the statements are not yours to turn. If you find one false, say at which input.
  Laid BY PROGRAM, IN A SANDBOX (cutbox-rows.mjs): the forced cells as the released guide's own fill.sh prints them over the translation 0b463bdf8b590acd… (all of the seat's roots in one cut). By AI agents, Wed Nov 11 2026. No macro, syntax, notation, axiom, sorry.
-/
import Derived.Test.YticfcbfoieklgaaChecked
import GoSem.Claim
import GoSem.ClaimJoined
import GoSem.ClaimMapViews
import Derived.JoinedTies
import Derived.KernelRfl
namespace Go.Proofs.Yticfcbfoieklgaa
/- THE CELL 'sum', in the pinned program and in every row, IS THE sha256 OF THE DUMP (.gsa) THAT YticfcbfoieklgaaProg.lean LOADS. Nothing in Lean hashes anything: it is a label: what it is worth is what the hold of that sum in a sandbox is worth. -/
noncomputable def Try.pinned : Pinned := { name := "yticfcbfoieklgaa", sum := "0b463bdf8b590acd33eff1d199a2891c7465dbc290f6d39b7d7e7e649e8a31c3", checked := Try.checked }
namespace Rows
def none {H : Type} : Left H := { results := [], args := [] }

/-- 'laws.FnExactInShield': WHATEVER THE INPUT: true; the input reads as it did. -/
def fnExactInShieldSpec : ChangeSpec := { name := "fnExactInShield", fn := fun _ => fun
  | [d1, d2] => { results := [.lit (.bool true)], args := [d1, d2] }
  | _ => none }
def fnExactInShieldRow : OpenClaim := { program := "yticfcbfoieklgaa", sum := "0b463bdf8b590acd33eff1d199a2891c7465dbc290f6d39b7d7e7e649e8a31c3", func := "loop.example/g00884/laws.FnExactInShield", spec := "fnExactInShield", apart := false }
def FnExactInShieldSaid : Prop := fnExactInShieldRow.holds Try.pinned (OpenSpec.ofChange fnExactInShieldSpec)

/-- ITS FALSE NEIGHBOUR: 'it returns false'. Refute it at one input. -/
def fnExactInShieldWrong : ChangeSpec := { name := "fnExactInShield", fn := fun _ => fun
  | [d1, d2] => { results := [.lit (.bool false)], args := [d1, d2] }
  | _ => none }
def FnExactInShieldWrongFalsely : Prop := fnExactInShieldRow.holds Try.pinned (OpenSpec.ofChange fnExactInShieldWrong)

/-- 'laws.FnExactLinePeriod': WHATEVER THE INPUT: true; the input reads as it did. -/
def fnExactLinePeriodSpec : ChangeSpec := { name := "fnExactLinePeriod", fn := fun _ => fun
  | [d] => { results := [.lit (.bool true)], args := [d] }
  | _ => none }
def fnExactLinePeriodRow : OpenClaim := { program := "yticfcbfoieklgaa", sum := "0b463bdf8b590acd33eff1d199a2891c7465dbc290f6d39b7d7e7e649e8a31c3", func := "loop.example/g00884/laws.FnExactLinePeriod", spec := "fnExactLinePeriod", apart := false }
def FnExactLinePeriodSaid : Prop := fnExactLinePeriodRow.holds Try.pinned (OpenSpec.ofChange fnExactLinePeriodSpec)

/-- ITS FALSE NEIGHBOUR: 'it returns false'. Refute it at one input. -/
def fnExactLinePeriodWrong : ChangeSpec := { name := "fnExactLinePeriod", fn := fun _ => fun
  | [d] => { results := [.lit (.bool false)], args := [d] }
  | _ => none }
def FnExactLinePeriodWrongFalsely : Prop := fnExactLinePeriodRow.holds Try.pinned (OpenSpec.ofChange fnExactLinePeriodWrong)

/-- 'laws.FnExactLineOffset': WHATEVER THE INPUT: true; the input reads as it did. -/
def fnExactLineOffsetSpec : ChangeSpec := { name := "fnExactLineOffset", fn := fun _ => fun
  | [d1, d2] => { results := [.lit (.bool true)], args := [d1, d2] }
  | _ => none }
def fnExactLineOffsetRow : OpenClaim := { program := "yticfcbfoieklgaa", sum := "0b463bdf8b590acd33eff1d199a2891c7465dbc290f6d39b7d7e7e649e8a31c3", func := "loop.example/g00884/laws.FnExactLineOffset", spec := "fnExactLineOffset", apart := false }
def FnExactLineOffsetSaid : Prop := fnExactLineOffsetRow.holds Try.pinned (OpenSpec.ofChange fnExactLineOffsetSpec)

/-- ITS FALSE NEIGHBOUR: 'it returns false'. Refute it at one input. -/
def fnExactLineOffsetWrong : ChangeSpec := { name := "fnExactLineOffset", fn := fun _ => fun
  | [d1, d2] => { results := [.lit (.bool false)], args := [d1, d2] }
  | _ => none }
def FnExactLineOffsetWrongFalsely : Prop := fnExactLineOffsetRow.holds Try.pinned (OpenSpec.ofChange fnExactLineOffsetWrong)

/-- 'laws.FnExactLineTurns': WHATEVER THE INPUT: true; the input reads as it did. -/
def fnExactLineTurnsSpec : ChangeSpec := { name := "fnExactLineTurns", fn := fun _ => fun
  | [d1, d2] => { results := [.lit (.bool true)], args := [d1, d2] }
  | _ => none }
def fnExactLineTurnsRow : OpenClaim := { program := "yticfcbfoieklgaa", sum := "0b463bdf8b590acd33eff1d199a2891c7465dbc290f6d39b7d7e7e649e8a31c3", func := "loop.example/g00884/laws.FnExactLineTurns", spec := "fnExactLineTurns", apart := false }
def FnExactLineTurnsSaid : Prop := fnExactLineTurnsRow.holds Try.pinned (OpenSpec.ofChange fnExactLineTurnsSpec)

/-- ITS FALSE NEIGHBOUR: 'it returns false'. Refute it at one input. -/
def fnExactLineTurnsWrong : ChangeSpec := { name := "fnExactLineTurns", fn := fun _ => fun
  | [d1, d2] => { results := [.lit (.bool false)], args := [d1, d2] }
  | _ => none }
def FnExactLineTurnsWrongFalsely : Prop := fnExactLineTurnsRow.holds Try.pinned (OpenSpec.ofChange fnExactLineTurnsWrong)

/-- 'laws.FnExactShieldRegion': WHATEVER THE INPUT: true; the input reads as it did. -/
def fnExactShieldRegionSpec : ChangeSpec := { name := "fnExactShieldRegion", fn := fun _ => fun
  | [] => { results := [.lit (.bool true)], args := [] }
  | _ => none }
def fnExactShieldRegionRow : OpenClaim := { program := "yticfcbfoieklgaa", sum := "0b463bdf8b590acd33eff1d199a2891c7465dbc290f6d39b7d7e7e649e8a31c3", func := "loop.example/g00884/laws.FnExactShieldRegion", spec := "fnExactShieldRegion", unfollowed := true, recurses := true, apart := false }
def FnExactShieldRegionSaid : Prop := fnExactShieldRegionRow.holds Try.pinned (OpenSpec.ofChange fnExactShieldRegionSpec)

/-- ITS FALSE NEIGHBOUR: 'it returns false'. Refute it at one input. -/
def fnExactShieldRegionWrong : ChangeSpec := { name := "fnExactShieldRegion", fn := fun _ => fun
  | [] => { results := [.lit (.bool false)], args := [] }
  | _ => none }
def FnExactShieldRegionWrongFalsely : Prop := fnExactShieldRegionRow.holds Try.pinned (OpenSpec.ofChange fnExactShieldRegionWrong)

/-- 'laws.FnExactIsValidRegion': WHATEVER THE INPUT: true; the input reads as it did. -/
def fnExactIsValidRegionSpec : ChangeSpec := { name := "fnExactIsValidRegion", fn := fun _ => fun
  | [d] => { results := [.lit (.bool true)], args := [d] }
  | _ => none }
def fnExactIsValidRegionRow : OpenClaim := { program := "yticfcbfoieklgaa", sum := "0b463bdf8b590acd33eff1d199a2891c7465dbc290f6d39b7d7e7e649e8a31c3", func := "loop.example/g00884/laws.FnExactIsValidRegion", spec := "fnExactIsValidRegion", unfollowed := true, recurses := true, apart := false }
def FnExactIsValidRegionSaid : Prop := fnExactIsValidRegionRow.holds Try.pinned (OpenSpec.ofChange fnExactIsValidRegionSpec)

/-- ITS FALSE NEIGHBOUR: 'it returns false'. Refute it at one input. -/
def fnExactIsValidRegionWrong : ChangeSpec := { name := "fnExactIsValidRegion", fn := fun _ => fun
  | [d] => { results := [.lit (.bool false)], args := [d] }
  | _ => none }
def FnExactIsValidRegionWrongFalsely : Prop := fnExactIsValidRegionRow.holds Try.pinned (OpenSpec.ofChange fnExactIsValidRegionWrong)

/-- 'laws.FnExactPartRegion': WHATEVER THE INPUT: true; the input reads as it did. -/
def fnExactPartRegionSpec : ChangeSpec := { name := "fnExactPartRegion", fn := fun _ => fun
  | [d1, d2] => { results := [.lit (.bool true)], args := [d1, d2] }
  | _ => none }
def fnExactPartRegionRow : OpenClaim := { program := "yticfcbfoieklgaa", sum := "0b463bdf8b590acd33eff1d199a2891c7465dbc290f6d39b7d7e7e649e8a31c3", func := "loop.example/g00884/laws.FnExactPartRegion", spec := "fnExactPartRegion", unfollowed := true, recurses := true, apart := false }
def FnExactPartRegionSaid : Prop := fnExactPartRegionRow.holds Try.pinned (OpenSpec.ofChange fnExactPartRegionSpec)

/-- ITS FALSE NEIGHBOUR: 'it returns false'. Refute it at one input. -/
def fnExactPartRegionWrong : ChangeSpec := { name := "fnExactPartRegion", fn := fun _ => fun
  | [d1, d2] => { results := [.lit (.bool false)], args := [d1, d2] }
  | _ => none }
def FnExactPartRegionWrongFalsely : Prop := fnExactPartRegionRow.holds Try.pinned (OpenSpec.ofChange fnExactPartRegionWrong)

/-- 'laws.FnExactCombineRegions': WHATEVER THE INPUT: true; the input reads as it did. -/
def fnExactCombineRegionsSpec : ChangeSpec := { name := "fnExactCombineRegions", fn := fun _ => fun
  | [d1, d2, d3] => { results := [.lit (.bool true)], args := [d1, d2, d3] }
  | _ => none }
def fnExactCombineRegionsRow : OpenClaim := { program := "yticfcbfoieklgaa", sum := "0b463bdf8b590acd33eff1d199a2891c7465dbc290f6d39b7d7e7e649e8a31c3", func := "loop.example/g00884/laws.FnExactCombineRegions", spec := "fnExactCombineRegions", unfollowed := true, recurses := true, apart := false }
def FnExactCombineRegionsSaid : Prop := fnExactCombineRegionsRow.holds Try.pinned (OpenSpec.ofChange fnExactCombineRegionsSpec)

/-- ITS FALSE NEIGHBOUR: 'it returns false'. Refute it at one input. -/
def fnExactCombineRegionsWrong : ChangeSpec := { name := "fnExactCombineRegions", fn := fun _ => fun
  | [d1, d2, d3] => { results := [.lit (.bool false)], args := [d1, d2, d3] }
  | _ => none }
def FnExactCombineRegionsWrongFalsely : Prop := fnExactCombineRegionsRow.holds Try.pinned (OpenSpec.ofChange fnExactCombineRegionsWrong)

/-- 'laws.FnExactAreaOf': WHATEVER THE INPUT: true; the input reads as it did. -/
def fnExactAreaOfSpec : ChangeSpec := { name := "fnExactAreaOf", fn := fun _ => fun
  | [d] => { results := [.lit (.bool true)], args := [d] }
  | _ => none }
def fnExactAreaOfRow : OpenClaim := { program := "yticfcbfoieklgaa", sum := "0b463bdf8b590acd33eff1d199a2891c7465dbc290f6d39b7d7e7e649e8a31c3", func := "loop.example/g00884/laws.FnExactAreaOf", spec := "fnExactAreaOf", unfollowed := true, recurses := true, apart := false }
def FnExactAreaOfSaid : Prop := fnExactAreaOfRow.holds Try.pinned (OpenSpec.ofChange fnExactAreaOfSpec)

/-- ITS FALSE NEIGHBOUR: 'it returns false'. Refute it at one input. -/
def fnExactAreaOfWrong : ChangeSpec := { name := "fnExactAreaOf", fn := fun _ => fun
  | [d] => { results := [.lit (.bool false)], args := [d] }
  | _ => none }
def FnExactAreaOfWrongFalsely : Prop := fnExactAreaOfRow.holds Try.pinned (OpenSpec.ofChange fnExactAreaOfWrong)

/-- 'laws.FnExactOrdinaryCells': WHATEVER THE INPUT: true; the input reads as it did. -/
def fnExactOrdinaryCellsSpec : ChangeSpec := { name := "fnExactOrdinaryCells", fn := fun _ => fun
  | [d] => { results := [.lit (.bool true)], args := [d] }
  | _ => none }
def fnExactOrdinaryCellsRow : OpenClaim := { program := "yticfcbfoieklgaa", sum := "0b463bdf8b590acd33eff1d199a2891c7465dbc290f6d39b7d7e7e649e8a31c3", func := "loop.example/g00884/laws.FnExactOrdinaryCells", spec := "fnExactOrdinaryCells", unfollowed := true, recurses := true, apart := false }
def FnExactOrdinaryCellsSaid : Prop := fnExactOrdinaryCellsRow.holds Try.pinned (OpenSpec.ofChange fnExactOrdinaryCellsSpec)

/-- ITS FALSE NEIGHBOUR: 'it returns false'. Refute it at one input. -/
def fnExactOrdinaryCellsWrong : ChangeSpec := { name := "fnExactOrdinaryCells", fn := fun _ => fun
  | [d] => { results := [.lit (.bool false)], args := [d] }
  | _ => none }
def FnExactOrdinaryCellsWrongFalsely : Prop := fnExactOrdinaryCellsRow.holds Try.pinned (OpenSpec.ofChange fnExactOrdinaryCellsWrong)

/-- 'laws.FnExactLinedOrdinary': WHATEVER THE INPUT: true; the input reads as it did. -/
def fnExactLinedOrdinarySpec : ChangeSpec := { name := "fnExactLinedOrdinary", fn := fun _ => fun
  | [d1, d2] => { results := [.lit (.bool true)], args := [d1, d2] }
  | _ => none }
def fnExactLinedOrdinaryRow : OpenClaim := { program := "yticfcbfoieklgaa", sum := "0b463bdf8b590acd33eff1d199a2891c7465dbc290f6d39b7d7e7e649e8a31c3", func := "loop.example/g00884/laws.FnExactLinedOrdinary", spec := "fnExactLinedOrdinary", unfollowed := true, recurses := true, apart := false }
def FnExactLinedOrdinarySaid : Prop := fnExactLinedOrdinaryRow.holds Try.pinned (OpenSpec.ofChange fnExactLinedOrdinarySpec)

/-- ITS FALSE NEIGHBOUR: 'it returns false'. Refute it at one input. -/
def fnExactLinedOrdinaryWrong : ChangeSpec := { name := "fnExactLinedOrdinary", fn := fun _ => fun
  | [d1, d2] => { results := [.lit (.bool false)], args := [d1, d2] }
  | _ => none }
def FnExactLinedOrdinaryWrongFalsely : Prop := fnExactLinedOrdinaryRow.holds Try.pinned (OpenSpec.ofChange fnExactLinedOrdinaryWrong)

/-- 'laws.FnParts': WHATEVER THE INPUT: true; the input reads as it did. -/
def fnPartsSpec : ChangeSpec := { name := "fnParts", fn := fun _ => fun
  | [d] => { results := [.lit (.bool true)], args := [d] }
  | _ => none }
def fnPartsRow : OpenClaim := { program := "yticfcbfoieklgaa", sum := "0b463bdf8b590acd33eff1d199a2891c7465dbc290f6d39b7d7e7e649e8a31c3", func := "loop.example/g00884/laws.FnParts", spec := "fnParts", unfollowed := true, recurses := true, apart := false }
def FnPartsSaid : Prop := fnPartsRow.holds Try.pinned (OpenSpec.ofChange fnPartsSpec)

/-- ITS FALSE NEIGHBOUR: 'it returns false'. Refute it at one input. -/
def fnPartsWrong : ChangeSpec := { name := "fnParts", fn := fun _ => fun
  | [d] => { results := [.lit (.bool false)], args := [d] }
  | _ => none }
def FnPartsWrongFalsely : Prop := fnPartsRow.holds Try.pinned (OpenSpec.ofChange fnPartsWrong)

/- THE SECOND FORM. 'bulk': how many values and letters a reading holds, each counted each time it is reached (what is shared counts as often as it is met; a slice's spare places count too). A statement '..UptoSaid' is the law's where the arguments, and the package variables that the reading takes, are together of bulk at most 1048576: NARROWER than '..Said'. Prove '..Said' where nothing that the law and all that it calls make is longer than what came in: it says more and counts as full. Else prove '..UptoSaid'. A law counts once. -/
mutual
def uptoBulk {H : Type} : DataW H → Nat
  | .lit (.string bytes) => bytes.length + 1
  | .lit _ => 1
  | .nil => 1
  | .ptr d => uptoBulk d + 1
  | .slice elems spare => uptoBulkAll elems + uptoBulkAll spare + 1
  | .agg parts => uptoBulkAll parts + 1
  | .iface _ d => uptoBulk d + 1
  | .map entries => uptoBulkEntries entries + 1
  | .held _ => 1
def uptoBulkAll {H : Type} : List (DataW H) → Nat
  | [] => 0
  | d :: r => uptoBulk d + uptoBulkAll r
def uptoBulkEntries {H : Type} : List (Lit × DataW H) → Nat
  | [] => 0
  | x :: r => uptoBulkEntry x + uptoBulkEntries r
def uptoBulkEntry {H : Type} : Lit × DataW H → Nat
  | (.string bytes, d) => bytes.length + uptoBulk d + 1
  | (_, d) => uptoBulk d + 1
 end
def uptoSmall : (H : Type) → List (DataW H) → Bool := fun _ ds => decide (uptoBulkAll ds ≤ 1048576)
def OpenSpec.upto (s : _root_.Go.ChangeSpec) : _root_.Go.OpenSpec := { _root_.Go.OpenSpec.ofChange s with cond := some uptoSmall }

/-- 'laws.FnExactInShield', WHERE WHAT IT READS IS OF BULK AT MOST 1048576: true; the input reads as it did. -/
def fnExactInShieldUptoRow : OpenClaim := { program := "yticfcbfoieklgaa", sum := "0b463bdf8b590acd33eff1d199a2891c7465dbc290f6d39b7d7e7e649e8a31c3", func := "loop.example/g00884/laws.FnExactInShield", spec := "fnExactInShield", apart := false, narrowed := true }
def FnExactInShieldUptoSaid : Prop := fnExactInShieldUptoRow.holds Try.pinned (OpenSpec.upto fnExactInShieldSpec)

/-- 'laws.FnExactLinePeriod', WHERE WHAT IT READS IS OF BULK AT MOST 1048576: true; the input reads as it did. -/
def fnExactLinePeriodUptoRow : OpenClaim := { program := "yticfcbfoieklgaa", sum := "0b463bdf8b590acd33eff1d199a2891c7465dbc290f6d39b7d7e7e649e8a31c3", func := "loop.example/g00884/laws.FnExactLinePeriod", spec := "fnExactLinePeriod", apart := false, narrowed := true }
def FnExactLinePeriodUptoSaid : Prop := fnExactLinePeriodUptoRow.holds Try.pinned (OpenSpec.upto fnExactLinePeriodSpec)

/-- 'laws.FnExactLineOffset', WHERE WHAT IT READS IS OF BULK AT MOST 1048576: true; the input reads as it did. -/
def fnExactLineOffsetUptoRow : OpenClaim := { program := "yticfcbfoieklgaa", sum := "0b463bdf8b590acd33eff1d199a2891c7465dbc290f6d39b7d7e7e649e8a31c3", func := "loop.example/g00884/laws.FnExactLineOffset", spec := "fnExactLineOffset", apart := false, narrowed := true }
def FnExactLineOffsetUptoSaid : Prop := fnExactLineOffsetUptoRow.holds Try.pinned (OpenSpec.upto fnExactLineOffsetSpec)

/-- 'laws.FnExactLineTurns', WHERE WHAT IT READS IS OF BULK AT MOST 1048576: true; the input reads as it did. -/
def fnExactLineTurnsUptoRow : OpenClaim := { program := "yticfcbfoieklgaa", sum := "0b463bdf8b590acd33eff1d199a2891c7465dbc290f6d39b7d7e7e649e8a31c3", func := "loop.example/g00884/laws.FnExactLineTurns", spec := "fnExactLineTurns", apart := false, narrowed := true }
def FnExactLineTurnsUptoSaid : Prop := fnExactLineTurnsUptoRow.holds Try.pinned (OpenSpec.upto fnExactLineTurnsSpec)

/-- 'laws.FnExactShieldRegion', WHERE WHAT IT READS IS OF BULK AT MOST 1048576: true; the input reads as it did. -/
def fnExactShieldRegionUptoRow : OpenClaim := { program := "yticfcbfoieklgaa", sum := "0b463bdf8b590acd33eff1d199a2891c7465dbc290f6d39b7d7e7e649e8a31c3", func := "loop.example/g00884/laws.FnExactShieldRegion", spec := "fnExactShieldRegion", unfollowed := true, recurses := true, apart := false, narrowed := true }
def FnExactShieldRegionUptoSaid : Prop := fnExactShieldRegionUptoRow.holds Try.pinned (OpenSpec.upto fnExactShieldRegionSpec)

/-- 'laws.FnExactIsValidRegion', WHERE WHAT IT READS IS OF BULK AT MOST 1048576: true; the input reads as it did. -/
def fnExactIsValidRegionUptoRow : OpenClaim := { program := "yticfcbfoieklgaa", sum := "0b463bdf8b590acd33eff1d199a2891c7465dbc290f6d39b7d7e7e649e8a31c3", func := "loop.example/g00884/laws.FnExactIsValidRegion", spec := "fnExactIsValidRegion", unfollowed := true, recurses := true, apart := false, narrowed := true }
def FnExactIsValidRegionUptoSaid : Prop := fnExactIsValidRegionUptoRow.holds Try.pinned (OpenSpec.upto fnExactIsValidRegionSpec)

/-- 'laws.FnExactPartRegion', WHERE WHAT IT READS IS OF BULK AT MOST 1048576: true; the input reads as it did. -/
def fnExactPartRegionUptoRow : OpenClaim := { program := "yticfcbfoieklgaa", sum := "0b463bdf8b590acd33eff1d199a2891c7465dbc290f6d39b7d7e7e649e8a31c3", func := "loop.example/g00884/laws.FnExactPartRegion", spec := "fnExactPartRegion", unfollowed := true, recurses := true, apart := false, narrowed := true }
def FnExactPartRegionUptoSaid : Prop := fnExactPartRegionUptoRow.holds Try.pinned (OpenSpec.upto fnExactPartRegionSpec)

/-- 'laws.FnExactCombineRegions', WHERE WHAT IT READS IS OF BULK AT MOST 1048576: true; the input reads as it did. -/
def fnExactCombineRegionsUptoRow : OpenClaim := { program := "yticfcbfoieklgaa", sum := "0b463bdf8b590acd33eff1d199a2891c7465dbc290f6d39b7d7e7e649e8a31c3", func := "loop.example/g00884/laws.FnExactCombineRegions", spec := "fnExactCombineRegions", unfollowed := true, recurses := true, apart := false, narrowed := true }
def FnExactCombineRegionsUptoSaid : Prop := fnExactCombineRegionsUptoRow.holds Try.pinned (OpenSpec.upto fnExactCombineRegionsSpec)

/-- 'laws.FnExactAreaOf', WHERE WHAT IT READS IS OF BULK AT MOST 1048576: true; the input reads as it did. -/
def fnExactAreaOfUptoRow : OpenClaim := { program := "yticfcbfoieklgaa", sum := "0b463bdf8b590acd33eff1d199a2891c7465dbc290f6d39b7d7e7e649e8a31c3", func := "loop.example/g00884/laws.FnExactAreaOf", spec := "fnExactAreaOf", unfollowed := true, recurses := true, apart := false, narrowed := true }
def FnExactAreaOfUptoSaid : Prop := fnExactAreaOfUptoRow.holds Try.pinned (OpenSpec.upto fnExactAreaOfSpec)

/-- 'laws.FnExactOrdinaryCells', WHERE WHAT IT READS IS OF BULK AT MOST 1048576: true; the input reads as it did. -/
def fnExactOrdinaryCellsUptoRow : OpenClaim := { program := "yticfcbfoieklgaa", sum := "0b463bdf8b590acd33eff1d199a2891c7465dbc290f6d39b7d7e7e649e8a31c3", func := "loop.example/g00884/laws.FnExactOrdinaryCells", spec := "fnExactOrdinaryCells", unfollowed := true, recurses := true, apart := false, narrowed := true }
def FnExactOrdinaryCellsUptoSaid : Prop := fnExactOrdinaryCellsUptoRow.holds Try.pinned (OpenSpec.upto fnExactOrdinaryCellsSpec)

/-- 'laws.FnExactLinedOrdinary', WHERE WHAT IT READS IS OF BULK AT MOST 1048576: true; the input reads as it did. -/
def fnExactLinedOrdinaryUptoRow : OpenClaim := { program := "yticfcbfoieklgaa", sum := "0b463bdf8b590acd33eff1d199a2891c7465dbc290f6d39b7d7e7e649e8a31c3", func := "loop.example/g00884/laws.FnExactLinedOrdinary", spec := "fnExactLinedOrdinary", unfollowed := true, recurses := true, apart := false, narrowed := true }
def FnExactLinedOrdinaryUptoSaid : Prop := fnExactLinedOrdinaryUptoRow.holds Try.pinned (OpenSpec.upto fnExactLinedOrdinarySpec)

/-- 'laws.FnParts', WHERE WHAT IT READS IS OF BULK AT MOST 1048576: true; the input reads as it did. -/
def fnPartsUptoRow : OpenClaim := { program := "yticfcbfoieklgaa", sum := "0b463bdf8b590acd33eff1d199a2891c7465dbc290f6d39b7d7e7e649e8a31c3", func := "loop.example/g00884/laws.FnParts", spec := "fnParts", unfollowed := true, recurses := true, apart := false, narrowed := true }
def FnPartsUptoSaid : Prop := fnPartsUptoRow.holds Try.pinned (OpenSpec.upto fnPartsSpec)

end Rows
end Go.Proofs.Yticfcbfoieklgaa
