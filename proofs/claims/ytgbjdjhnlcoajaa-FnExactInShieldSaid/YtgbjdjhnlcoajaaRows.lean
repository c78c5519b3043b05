/-
  No cell of these rows narrows 'for every input' (looked for: loops, veiled, ifaces, maps, wideKeys, modest, calm, conditions, laid).
  DERIVED. THE GIVEN ROWS OF THIS SEAT. 7 by the template 'for every input the law returns true; each argument reads behind the call as it read before'; 0 by the template 'total and deterministic' (their statements: YtgbjdjhnlcoajaaTotals.lean).
  GIVEN WITH THE SEED: the statements are not yours to turn. If you find one false, say at which input.
  Laid BY PROGRAM, IN A SANDBOX (cutbox-rows.mjs): the forced cells as the released guide's own fill.sh prints them over the translation 91da562a0773454c… (all of the seat's roots in one cut). By AI agents, Wed Nov 11 2026. No macro, syntax, notation, axiom, sorry.
-/
import Derived.Test.YtgbjdjhnlcoajaaChecked
import GoSem.Claim
import GoSem.ClaimJoined
import GoSem.ClaimMapViews
import Derived.JoinedTies
import Derived.KernelRfl
namespace Go.Proofs.Ytgbjdjhnlcoajaa
/- THE CELL 'sum', in the pinned program and in every row, IS THE sha256 OF THE DUMP (.gsa) THAT YtgbjdjhnlcoajaaProg.lean LOADS. Nothing in Lean hashes anything: it is a label: what it is worth is what the hold of that sum in a sandbox is worth. -/
noncomputable def Try.pinned : Pinned := { name := "ytgbjdjhnlcoajaa", sum := "91da562a0773454c1917064fbd8a2bdcf805f326695e3b33039339fcc7a4d841", checked := Try.checked }
namespace Rows
def none {H : Type} : Left H := { results := [], args := [] }

/-- 'laws.FnExactInShield': WHATEVER THE INPUT: true; the input reads as it did. -/
def fnExactInShieldSpec : ChangeSpec := { name := "fnExactInShield", fn := fun _ => fun
  | [d1, d2] => { results := [.lit (.bool true)], args := [d1, d2] }
  | _ => none }
def fnExactInShieldRow : OpenClaim := { program := "ytgbjdjhnlcoajaa", sum := "91da562a0773454c1917064fbd8a2bdcf805f326695e3b33039339fcc7a4d841", func := "loop.example/g00884/laws.FnExactInShield", spec := "fnExactInShield", apart := false }
def FnExactInShieldSaid : Prop := fnExactInShieldRow.holds Try.pinned (OpenSpec.ofChange fnExactInShieldSpec)

/-- ITS FALSE NEIGHBOUR: 'it returns false'. Refute it at one input. -/
def fnExactInShieldWrong : ChangeSpec := { name := "fnExactInShield", fn := fun _ => fun
  | [d1, d2] => { results := [.lit (.bool false)], args := [d1, d2] }
  | _ => none }
def FnExactInShieldWrongFalsely : Prop := fnExactInShieldRow.holds Try.pinned (OpenSpec.ofChange fnExactInShieldWrong)

/-- 'laws.FnExactLinePeriod': WHATEVER THE INPUT: true; the input reads as it did. -/
def fnExactLinePeriodSpec : ChangeSpec := { name := "fnExactLinePeriod", fn := fun _ => fun
  | [d] => { results := [.lit (.bool true)], args := [d] }
  | _ => none }
def fnExactLinePeriodRow : OpenClaim := { program := "ytgbjdjhnlcoajaa", sum := "91da562a0773454c1917064fbd8a2bdcf805f326695e3b33039339fcc7a4d841", func := "loop.example/g00884/laws.FnExactLinePeriod", spec := "fnExactLinePeriod", apart := false }
def FnExactLinePeriodSaid : Prop := fnExactLinePeriodRow.holds Try.pinned (OpenSpec.ofChange fnExactLinePeriodSpec)

/-- ITS FALSE NEIGHBOUR: 'it returns false'. Refute it at one input. -/
def fnExactLinePeriodWrong : ChangeSpec := { name := "fnExactLinePeriod", fn := fun _ => fun
  | [d] => { results := [.lit (.bool false)], args := [d] }
  | _ => none }
def FnExactLinePeriodWrongFalsely : Prop := fnExactLinePeriodRow.holds Try.pinned (OpenSpec.ofChange fnExactLinePeriodWrong)

/-- 'laws.FnExactLineOffset': WHATEVER THE INPUT: true; the input reads as it did. -/
def fnExactLineOffsetSpec : ChangeSpec := { name := "fnExactLineOffset", fn := fun _ => fun
  | [d1, d2] => { results := [.lit (.bool true)], args := [d1, d2] }
  | _ => none }
def fnExactLineOffsetRow : OpenClaim := { program := "ytgbjdjhnlcoajaa", sum := "91da562a0773454c1917064fbd8a2bdcf805f326695e3b33039339fcc7a4d841", func := "loop.example/g00884/laws.FnExactLineOffset", spec := "fnExactLineOffset", apart := false }
def FnExactLineOffsetSaid : Prop := fnExactLineOffsetRow.holds Try.pinned (OpenSpec.ofChange fnExactLineOffsetSpec)

/-- ITS FALSE NEIGHBOUR: 'it returns false'. Refute it at one input. -/
def fnExactLineOffsetWrong : ChangeSpec := { name := "fnExactLineOffset", fn := fun _ => fun
  | [d1, d2] => { results := [.lit (.bool false)], args := [d1, d2] }
  | _ => none }
def FnExactLineOffsetWrongFalsely : Prop := fnExactLineOffsetRow.holds Try.pinned (OpenSpec.ofChange fnExactLineOffsetWrong)

/-- 'laws.FnExactOtherTincture': WHATEVER THE INPUT: true; the input reads as it did. -/
def fnExactOtherTinctureSpec : ChangeSpec := { name := "fnExactOtherTincture", fn := fun _ => fun
  | [d1, d2] => { results := [.lit (.bool true)], args := [d1, d2] }
  | _ => none }
def fnExactOtherTinctureRow : OpenClaim := { program := "ytgbjdjhnlcoajaa", sum := "91da562a0773454c1917064fbd8a2bdcf805f326695e3b33039339fcc7a4d841", func := "loop.example/g00884/laws.FnExactOtherTincture", spec := "fnExactOtherTincture", apart := false }
def FnExactOtherTinctureSaid : Prop := fnExactOtherTinctureRow.holds Try.pinned (OpenSpec.ofChange fnExactOtherTinctureSpec)

/-- ITS FALSE NEIGHBOUR: 'it returns false'. Refute it at one input. -/
def fnExactOtherTinctureWrong : ChangeSpec := { name := "fnExactOtherTincture", fn := fun _ => fun
  | [d1, d2] => { results := [.lit (.bool false)], args := [d1, d2] }
  | _ => none }
def FnExactOtherTinctureWrongFalsely : Prop := fnExactOtherTinctureRow.holds Try.pinned (OpenSpec.ofChange fnExactOtherTinctureWrong)

/-- 'laws.FnExactIsValidBox': WHATEVER THE INPUT: true; the input reads as it did. -/
def fnExactIsValidBoxSpec : ChangeSpec := { name := "fnExactIsValidBox", fn := fun _ => fun
  | [d] => { results := [.lit (.bool true)], args := [d] }
  | _ => none }
def fnExactIsValidBoxRow : OpenClaim := { program := "ytgbjdjhnlcoajaa", sum := "91da562a0773454c1917064fbd8a2bdcf805f326695e3b33039339fcc7a4d841", func := "loop.example/g00884/laws.FnExactIsValidBox", spec := "fnExactIsValidBox", unfollowed := true, recurses := true, apart := false }
def FnExactIsValidBoxSaid : Prop := fnExactIsValidBoxRow.holds Try.pinned (OpenSpec.ofChange fnExactIsValidBoxSpec)

/-- ITS FALSE NEIGHBOUR: 'it returns false'. Refute it at one input. -/
def fnExactIsValidBoxWrong : ChangeSpec := { name := "fnExactIsValidBox", fn := fun _ => fun
  | [d] => { results := [.lit (.bool false)], args := [d] }
  | _ => none }
def FnExactIsValidBoxWrongFalsely : Prop := fnExactIsValidBoxRow.holds Try.pinned (OpenSpec.ofChange fnExactIsValidBoxWrong)

/-- 'laws.FnExactLineTurns': WHATEVER THE INPUT: true; the input reads as it did. -/
def fnExactLineTurnsSpec : ChangeSpec := { name := "fnExactLineTurns", fn := fun _ => fun
  | [d1, d2] => { results := [.lit (.bool true)], args := [d1, d2] }
  | _ => none }
def fnExactLineTurnsRow : OpenClaim := { program := "ytgbjdjhnlcoajaa", sum := "91da562a0773454c1917064fbd8a2bdcf805f326695e3b33039339fcc7a4d841", func := "loop.example/g00884/laws.FnExactLineTurns", spec := "fnExactLineTurns", apart := false }
def FnExactLineTurnsSaid : Prop := fnExactLineTurnsRow.holds Try.pinned (OpenSpec.ofChange fnExactLineTurnsSpec)

/-- ITS FALSE NEIGHBOUR: 'it returns false'. Refute it at one input. -/
def fnExactLineTurnsWrong : ChangeSpec := { name := "fnExactLineTurns", fn := fun _ => fun
  | [d1, d2] => { results := [.lit (.bool false)], args := [d1, d2] }
  | _ => none }
def FnExactLineTurnsWrongFalsely : Prop := fnExactLineTurnsRow.holds Try.pinned (OpenSpec.ofChange fnExactLineTurnsWrong)

/-- 'laws.FnExactShieldRegion': WHATEVER THE INPUT: true; the input reads as it did. -/
def fnExactShieldRegionSpec : ChangeSpec := { name := "fnExactShieldRegion", fn := fun _ => fun
  | [] => { results := [.lit (.bool true)], args := [] }
  | _ => none }
def fnExactShieldRegionRow : OpenClaim := { program := "ytgbjdjhnlcoajaa", sum := "91da562a0773454c1917064fbd8a2bdcf805f326695e3b33039339fcc7a4d841", func := "loop.example/g00884/laws.FnExactShieldRegion", spec := "fnExactShieldRegion", unfollowed := true, recurses := true, apart := false }
def FnExactShieldRegionSaid : Prop := fnExactShieldRegionRow.holds Try.pinned (OpenSpec.ofChange fnExactShieldRegionSpec)

/-- ITS FALSE NEIGHBOUR: 'it returns false'. Refute it at one input. -/
def fnExactShieldRegionWrong : ChangeSpec := { name := "fnExactShieldRegion", fn := fun _ => fun
  | [] => { results := [.lit (.bool false)], args := [] }
  | _ => none }
def FnExactShieldRegionWrongFalsely : Prop := fnExactShieldRegionRow.holds Try.pinned (OpenSpec.ofChange fnExactShieldRegionWrong)

/- THE SECOND FORM. 'bulk': how many values and letters a reading holds, each counted each time it is reached (what is shared counts as often as it is met; a slice's spare places count too). A statement '..UptoSaid' is the law's where the arguments, and the package variables that the reading takes, are together of bulk at most 1048576: NARROWER than '..Said'. Prove '..Said' where nothing that the law and all that it calls make is longer than what came in: it says more and counts as full. Else prove '..UptoSaid'. A law counts once. -/
mutual
def uptoBulk {H : Type} : DataW H → Nat
  | .lit (.string bytes) => bytes.length + 1
  | .lit _ => 1
  | .nil => 1
  | .ptr d => uptoBulk d + 1
  | .slice elems spare => uptoBulkAll elems + uptoBulkAll spare + 1
  | .agg parts => uptoBulkAll parts + 1
  | .iface _ d => uptoBulk d + 1
  | .map entries => uptoBulkEntries entries + 1
  | .held _ => 1
def uptoBulkAll {H : Type} : List (DataW H) → Nat
  | [] => 0
  | d :: r => uptoBulk d + uptoBulkAll r
def uptoBulkEntries {H : Type} : List (Lit × DataW H) → Nat
  | [] => 0
  | x :: r => uptoBulkEntry x + uptoBulkEntries r
def uptoBulkEntry {H : Type} : Lit × DataW H → Nat
  | (.string bytes, d) => bytes.length + uptoBulk d + 1
  | (_, d) => uptoBulk d + 1
 end
def uptoSmall : (H : Type) → List (DataW H) → Bool := fun _ ds => decide (uptoBulkAll ds ≤ 1048576)
def OpenSpec.upto (s : _root_.Go.ChangeSpec) : _root_.Go.OpenSpec := { _root_.Go.OpenSpec.ofChange s with cond := some uptoSmall }

/-- 'laws.FnExactInShield', WHERE WHAT IT READS IS OF BULK AT MOST 1048576: true; the input reads as it did. -/
def fnExactInShieldUptoRow : OpenClaim := { program := "ytgbjdjhnlcoajaa", sum := "91da562a0773454c1917064fbd8a2bdcf805f326695e3b33039339fcc7a4d841", func := "loop.example/g00884/laws.FnExactInShield", spec := "fnExactInShield", apart := false, narrowed := true }
def FnExactInShieldUptoSaid : Prop := fnExactInShieldUptoRow.holds Try.pinned (OpenSpec.upto fnExactInShieldSpec)

/-- 'laws.FnExactLinePeriod', WHERE WHAT IT READS IS OF BULK AT MOST 1048576: true; the input reads as it did. -/
def fnExactLinePeriodUptoRow : OpenClaim := { program := "ytgbjdjhnlcoajaa", sum := "91da562a0773454c1917064fbd8a2bdcf805f326695e3b33039339fcc7a4d841", func := "loop.example/g00884/laws.FnExactLinePeriod", spec := "fnExactLinePeriod", apart := false, narrowed := true }
def FnExactLinePeriodUptoSaid : Prop := fnExactLinePeriodUptoRow.holds Try.pinned (OpenSpec.upto fnExactLinePeriodSpec)

/-- 'laws.FnExactLineOffset', WHERE WHAT IT READS IS OF BULK AT MOST 1048576: true; the input reads as it did. -/
def fnExactLineOffsetUptoRow : OpenClaim := { program := "ytgbjdjhnlcoajaa", sum := "91da562a0773454c1917064fbd8a2bdcf805f326695e3b33039339fcc7a4d841", func := "loop.example/g00884/laws.FnExactLineOffset", spec := "fnExactLineOffset", apart := false, narrowed := true }
def FnExactLineOffsetUptoSaid : Prop := fnExactLineOffsetUptoRow.holds Try.pinned (OpenSpec.upto fnExactLineOffsetSpec)

/-- 'laws.FnExactOtherTincture', WHERE WHAT IT READS IS OF BULK AT MOST 1048576: true; the input reads as it did. -/
def fnExactOtherTinctureUptoRow : OpenClaim := { program := "ytgbjdjhnlcoajaa", sum := "91da562a0773454c1917064fbd8a2bdcf805f326695e3b33039339fcc7a4d841", func := "loop.example/g00884/laws.FnExactOtherTincture", spec := "fnExactOtherTincture", apart := false, narrowed := true }
def FnExactOtherTinctureUptoSaid : Prop := fnExactOtherTinctureUptoRow.holds Try.pinned (OpenSpec.upto fnExactOtherTinctureSpec)

/-- 'laws.FnExactIsValidBox', WHERE WHAT IT READS IS OF BULK AT MOST 1048576: true; the input reads as it did. -/
def fnExactIsValidBoxUptoRow : OpenClaim := { program := "ytgbjdjhnlcoajaa", sum := "91da562a0773454c1917064fbd8a2bdcf805f326695e3b33039339fcc7a4d841", func := "loop.example/g00884/laws.FnExactIsValidBox", spec := "fnExactIsValidBox", unfollowed := true, recurses := true, apart := false, narrowed := true }
def FnExactIsValidBoxUptoSaid : Prop := fnExactIsValidBoxUptoRow.holds Try.pinned (OpenSpec.upto fnExactIsValidBoxSpec)

/-- 'laws.FnExactLineTurns', WHERE WHAT IT READS IS OF BULK AT MOST 1048576: true; the input reads as it did. -/
def fnExactLineTurnsUptoRow : OpenClaim := { program := "ytgbjdjhnlcoajaa", sum := "91da562a0773454c1917064fbd8a2bdcf805f326695e3b33039339fcc7a4d841", func := "loop.example/g00884/laws.FnExactLineTurns", spec := "fnExactLineTurns", apart := false, narrowed := true }
def FnExactLineTurnsUptoSaid : Prop := fnExactLineTurnsUptoRow.holds Try.pinned (OpenSpec.upto fnExactLineTurnsSpec)

/-- 'laws.FnExactShieldRegion', WHERE WHAT IT READS IS OF BULK AT MOST 1048576: true; the input reads as it did. -/
def fnExactShieldRegionUptoRow : OpenClaim := { program := "ytgbjdjhnlcoajaa", sum := "91da562a0773454c1917064fbd8a2bdcf805f326695e3b33039339fcc7a4d841", func := "loop.example/g00884/laws.FnExactShieldRegion", spec := "fnExactShieldRegion", unfollowed := true, recurses := true, apart := false, narrowed := true }
def FnExactShieldRegionUptoSaid : Prop := fnExactShieldRegionUptoRow.holds Try.pinned (OpenSpec.upto fnExactShieldRegionSpec)

end Rows
end Go.Proofs.Ytgbjdjhnlcoajaa
