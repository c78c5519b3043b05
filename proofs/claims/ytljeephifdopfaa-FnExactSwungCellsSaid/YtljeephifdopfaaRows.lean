/-
  No cell of these rows narrows 'for every input' (looked for: loops, veiled, ifaces, maps, wideKeys, modest, calm, conditions, laid).
  DERIVED. THE GIVEN ROWS OF THIS SEAT. 9 by the template 'for every input the law returns true; each argument reads behind the call as it read before'; 0 by the template 'total and deterministic' (their statements: YtljeephifdopfaaTotals.lean).
  GIVEN WITH THE SEED: the statements are not yours to turn. If you find one false, say at which input.
  Laid BY PROGRAM, IN A SANDBOX (cutbox-rows.mjs): the forced cells as the released guide's own fill.sh prints them over the translation af55c0f26cf2139b… (all of the seat's roots in one cut). By AI agents, Wed Nov 11 2026. No macro, syntax, notation, axiom, sorry.
-/
import Derived.Test.YtljeephifdopfaaChecked
import GoSem.Claim
import GoSem.ClaimJoined
import GoSem.ClaimMapViews
import Derived.JoinedTies
import Derived.KernelRfl
namespace Go.Proofs.Ytljeephifdopfaa
/- THE CELL 'sum', in the pinned program and in every row, IS THE sha256 OF THE DUMP (.gsa) THAT YtljeephifdopfaaProg.lean LOADS. Nothing in Lean hashes anything: it is a label: what it is worth is what the hold of that sum in a sandbox is worth. -/
noncomputable def Try.pinned : Pinned := { name := "ytljeephifdopfaa", sum := "af55c0f26cf2139b0ad68f2e7f1921fcc82cdf6e9b41827936762336a6922f06", checked := Try.checked }
namespace Rows
def none {H : Type} : Left H := { results := [], args := [] }

/-- 'laws.FnExactFieldPart': WHATEVER THE INPUT: true; the input reads as it did. -/
def fnExactFieldPartSpec : ChangeSpec := { name := "fnExactFieldPart", fn := fun _ => fun
  | [d1, d2, d3] => { results := [.lit (.bool true)], args := [d1, d2, d3] }
  | _ => none }
def fnExactFieldPartRow : OpenClaim := { program := "ytljeephifdopfaa", sum := "af55c0f26cf2139b0ad68f2e7f1921fcc82cdf6e9b41827936762336a6922f06", func := "loop.example/g00884/laws.FnExactFieldPart", spec := "fnExactFieldPart", apart := false }
def FnExactFieldPartSaid : Prop := fnExactFieldPartRow.holds Try.pinned (OpenSpec.ofChange fnExactFieldPartSpec)

/-- ITS FALSE NEIGHBOUR: 'it returns false'. Refute it at one input. -/
def fnExactFieldPartWrong : ChangeSpec := { name := "fnExactFieldPart", fn := fun _ => fun
  | [d1, d2, d3] => { results := [.lit (.bool false)], args := [d1, d2, d3] }
  | _ => none }
def FnExactFieldPartWrongFalsely : Prop := fnExactFieldPartRow.holds Try.pinned (OpenSpec.ofChange fnExactFieldPartWrong)

/-- 'laws.FnExactFieldTincture': WHATEVER THE INPUT: true; the input reads as it did. -/
def fnExactFieldTinctureSpec : ChangeSpec := { name := "fnExactFieldTincture", fn := fun _ => fun
  | [d1, d2, d3] => { results := [.lit (.bool true)], args := [d1, d2, d3] }
  | _ => none }
def fnExactFieldTinctureRow : OpenClaim := { program := "ytljeephifdopfaa", sum := "af55c0f26cf2139b0ad68f2e7f1921fcc82cdf6e9b41827936762336a6922f06", func := "loop.example/g00884/laws.FnExactFieldTincture", spec := "fnExactFieldTincture", apart := false }
def FnExactFieldTinctureSaid : Prop := fnExactFieldTinctureRow.holds Try.pinned (OpenSpec.ofChange fnExactFieldTinctureSpec)

/-- ITS FALSE NEIGHBOUR: 'it returns false'. Refute it at one input. -/
def fnExactFieldTinctureWrong : ChangeSpec := { name := "fnExactFieldTincture", fn := fun _ => fun
  | [d1, d2, d3] => { results := [.lit (.bool false)], args := [d1, d2, d3] }
  | _ => none }
def FnExactFieldTinctureWrongFalsely : Prop := fnExactFieldTinctureRow.holds Try.pinned (OpenSpec.ofChange fnExactFieldTinctureWrong)

/-- 'laws.FnExactFieldRegion': WHATEVER THE INPUT: true; the input reads as it did. -/
def fnExactFieldRegionSpec : ChangeSpec := { name := "fnExactFieldRegion", fn := fun _ => fun
  | [d1, d2] => { results := [.lit (.bool true)], args := [d1, d2] }
  | _ => none }
def fnExactFieldRegionRow : OpenClaim := { program := "ytljeephifdopfaa", sum := "af55c0f26cf2139b0ad68f2e7f1921fcc82cdf6e9b41827936762336a6922f06", func := "loop.example/g00884/laws.FnExactFieldRegion", spec := "fnExactFieldRegion", unfollowed := true, recurses := true, apart := false }
def FnExactFieldRegionSaid : Prop := fnExactFieldRegionRow.holds Try.pinned (OpenSpec.ofChange fnExactFieldRegionSpec)

/-- ITS FALSE NEIGHBOUR: 'it returns false'. Refute it at one input. -/
def fnExactFieldRegionWrong : ChangeSpec := { name := "fnExactFieldRegion", fn := fun _ => fun
  | [d1, d2] => { results := [.lit (.bool false)], args := [d1, d2] }
  | _ => none }
def FnExactFieldRegionWrongFalsely : Prop := fnExactFieldRegionRow.holds Try.pinned (OpenSpec.ofChange fnExactFieldRegionWrong)

/-- 'laws.FnExactSwungCells': WHATEVER THE INPUT: true; the input reads as it did. -/
def fnExactSwungCellsSpec : ChangeSpec := { name := "fnExactSwungCells", fn := fun _ => fun
  | [d] => { results := [.lit (.bool true)], args := [d] }
  | _ => none }
def fnExactSwungCellsRow : OpenClaim := { program := "ytljeephifdopfaa", sum := "af55c0f26cf2139b0ad68f2e7f1921fcc82cdf6e9b41827936762336a6922f06", func := "loop.example/g00884/laws.FnExactSwungCells", spec := "fnExactSwungCells", unfollowed := true, recurses := true, apart := false }
def FnExactSwungCellsSaid : Prop := fnExactSwungCellsRow.holds Try.pinned (OpenSpec.ofChange fnExactSwungCellsSpec)

/-- ITS FALSE NEIGHBOUR: 'it returns false'. Refute it at one input. -/
def fnExactSwungCellsWrong : ChangeSpec := { name := "fnExactSwungCells", fn := fun _ => fun
  | [d] => { results := [.lit (.bool false)], args := [d] }
  | _ => none }
def FnExactSwungCellsWrongFalsely : Prop := fnExactSwungCellsRow.holds Try.pinned (OpenSpec.ofChange fnExactSwungCellsWrong)

/-- 'laws.FnLines': WHATEVER THE INPUT: true; the input reads as it did. -/
def fnLinesSpec : ChangeSpec := { name := "fnLines", fn := fun _ => fun
  | [d] => { results := [.lit (.bool true)], args := [d] }
  | _ => none }
def fnLinesRow : OpenClaim := { program := "ytljeephifdopfaa", sum := "af55c0f26cf2139b0ad68f2e7f1921fcc82cdf6e9b41827936762336a6922f06", func := "loop.example/g00884/laws.FnLines", spec := "fnLines", unfollowed := true, recurses := true, apart := false }
def FnLinesSaid : Prop := fnLinesRow.holds Try.pinned (OpenSpec.ofChange fnLinesSpec)

/-- ITS FALSE NEIGHBOUR: 'it returns false'. Refute it at one input. -/
def fnLinesWrong : ChangeSpec := { name := "fnLines", fn := fun _ => fun
  | [d] => { results := [.lit (.bool false)], args := [d] }
  | _ => none }
def FnLinesWrongFalsely : Prop := fnLinesRow.holds Try.pinned (OpenSpec.ofChange fnLinesWrong)

/-- 'laws.FnCurves': WHATEVER THE INPUT: true; the input reads as it did. -/
def fnCurvesSpec : ChangeSpec := { name := "fnCurves", fn := fun _ => fun
  | [d] => { results := [.lit (.bool true)], args := [d] }
  | _ => none }
def fnCurvesRow : OpenClaim := { program := "ytljeephifdopfaa", sum := "af55c0f26cf2139b0ad68f2e7f1921fcc82cdf6e9b41827936762336a6922f06", func := "loop.example/g00884/laws.FnCurves", spec := "fnCurves", unfollowed := true, recurses := true, apart := false }
def FnCurvesSaid : Prop := fnCurvesRow.holds Try.pinned (OpenSpec.ofChange fnCurvesSpec)

/-- ITS FALSE NEIGHBOUR: 'it returns false'. Refute it at one input. -/
def fnCurvesWrong : ChangeSpec := { name := "fnCurves", fn := fun _ => fun
  | [d] => { results := [.lit (.bool false)], args := [d] }
  | _ => none }
def FnCurvesWrongFalsely : Prop := fnCurvesRow.holds Try.pinned (OpenSpec.ofChange fnCurvesWrong)

/-- 'laws.FnExactArmsOrdinary': WHATEVER THE INPUT: true; the input reads as it did. -/
def fnExactArmsOrdinarySpec : ChangeSpec := { name := "fnExactArmsOrdinary", fn := fun _ => fun
  | [d] => { results := [.lit (.bool true)], args := [d] }
  | _ => none }
def fnExactArmsOrdinaryRow : OpenClaim := { program := "ytljeephifdopfaa", sum := "af55c0f26cf2139b0ad68f2e7f1921fcc82cdf6e9b41827936762336a6922f06", func := "loop.example/g00884/laws.FnExactArmsOrdinary", spec := "fnExactArmsOrdinary", unfollowed := true, recurses := true, apart := false }
def FnExactArmsOrdinarySaid : Prop := fnExactArmsOrdinaryRow.holds Try.pinned (OpenSpec.ofChange fnExactArmsOrdinarySpec)

/-- ITS FALSE NEIGHBOUR: 'it returns false'. Refute it at one input. -/
def fnExactArmsOrdinaryWrong : ChangeSpec := { name := "fnExactArmsOrdinary", fn := fun _ => fun
  | [d] => { results := [.lit (.bool false)], args := [d] }
  | _ => none }
def FnExactArmsOrdinaryWrongFalsely : Prop := fnExactArmsOrdinaryRow.holds Try.pinned (OpenSpec.ofChange fnExactArmsOrdinaryWrong)

/-- 'laws.FnExactGroundOf': WHATEVER THE INPUT: true; the input reads as it did. -/
def fnExactGroundOfSpec : ChangeSpec := { name := "fnExactGroundOf", fn := fun _ => fun
  | [d] => { results := [.lit (.bool true)], args := [d] }
  | _ => none }
def fnExactGroundOfRow : OpenClaim := { program := "ytljeephifdopfaa", sum := "af55c0f26cf2139b0ad68f2e7f1921fcc82cdf6e9b41827936762336a6922f06", func := "loop.example/g00884/laws.FnExactGroundOf", spec := "fnExactGroundOf", unfollowed := true, recurses := true, apart := false }
def FnExactGroundOfSaid : Prop := fnExactGroundOfRow.holds Try.pinned (OpenSpec.ofChange fnExactGroundOfSpec)

/-- ITS FALSE NEIGHBOUR: 'it returns false'. Refute it at one input. -/
def fnExactGroundOfWrong : ChangeSpec := { name := "fnExactGroundOf", fn := fun _ => fun
  | [d] => { results := [.lit (.bool false)], args := [d] }
  | _ => none }
def FnExactGroundOfWrongFalsely : Prop := fnExactGroundOfRow.holds Try.pinned (OpenSpec.ofChange fnExactGroundOfWrong)

/-- 'laws.FnExactOtherTincture': WHATEVER THE INPUT: true; the input reads as it did. -/
def fnExactOtherTinctureSpec : ChangeSpec := { name := "fnExactOtherTincture", fn := fun _ => fun
  | [d1, d2] => { results := [.lit (.bool true)], args := [d1, d2] }
  | _ => none }
def fnExactOtherTinctureRow : OpenClaim := { program := "ytljeephifdopfaa", sum := "af55c0f26cf2139b0ad68f2e7f1921fcc82cdf6e9b41827936762336a6922f06", func := "loop.example/g00884/laws.FnExactOtherTincture", spec := "fnExactOtherTincture", apart := false }
def FnExactOtherTinctureSaid : Prop := fnExactOtherTinctureRow.holds Try.pinned (OpenSpec.ofChange fnExactOtherTinctureSpec)

/-- ITS FALSE NEIGHBOUR: 'it returns false'. Refute it at one input. -/
def fnExactOtherTinctureWrong : ChangeSpec := { name := "fnExactOtherTincture", fn := fun _ => fun
  | [d1, d2] => { results := [.lit (.bool false)], args := [d1, d2] }
  | _ => none }
def FnExactOtherTinctureWrongFalsely : Prop := fnExactOtherTinctureRow.holds Try.pinned (OpenSpec.ofChange fnExactOtherTinctureWrong)

/- THE SECOND FORM. 'bulk': how many values and letters a reading holds, each counted each time it is reached (what is shared counts as often as it is met; a slice's spare places count too). A statement '..UptoSaid' is the law's where the arguments, and the package variables that the reading takes, are together of bulk at most 1048576: NARROWER than '..Said'. Prove '..Said' where nothing that the law and all that it calls make is longer than what came in: it says more and counts as full. Else prove '..UptoSaid'. A law counts once. -/
mutual
def uptoBulk {H : Type} : DataW H → Nat
  | .lit (.string bytes) => bytes.length + 1
  | .lit _ => 1
  | .nil => 1
  | .ptr d => uptoBulk d + 1
  | .slice elems spare => uptoBulkAll elems + uptoBulkAll spare + 1
  | .agg parts => uptoBulkAll parts + 1
  | .iface _ d => uptoBulk d + 1
  | .map entries => uptoBulkEntries entries + 1
  | .held _ => 1
def uptoBulkAll {H : Type} : List (DataW H) → Nat
  | [] => 0
  | d :: r => uptoBulk d + uptoBulkAll r
def uptoBulkEntries {H : Type} : List (Lit × DataW H) → Nat
  | [] => 0
  | x :: r => uptoBulkEntry x + uptoBulkEntries r
def uptoBulkEntry {H : Type} : Lit × DataW H → Nat
  | (.string bytes, d) => bytes.length + uptoBulk d + 1
  | (_, d) => uptoBulk d + 1
 end
def uptoSmall : (H : Type) → List (DataW H) → Bool := fun _ ds => decide (uptoBulkAll ds ≤ 1048576)
def OpenSpec.upto (s : _root_.Go.ChangeSpec) : _root_.Go.OpenSpec := { _root_.Go.OpenSpec.ofChange s with cond := some uptoSmall }

/-- 'laws.FnExactFieldPart', WHERE WHAT IT READS IS OF BULK AT MOST 1048576: true; the input reads as it did. -/
def fnExactFieldPartUptoRow : OpenClaim := { program := "ytljeephifdopfaa", sum := "af55c0f26cf2139b0ad68f2e7f1921fcc82cdf6e9b41827936762336a6922f06", func := "loop.example/g00884/laws.FnExactFieldPart", spec := "fnExactFieldPart", apart := false, narrowed := true }
def FnExactFieldPartUptoSaid : Prop := fnExactFieldPartUptoRow.holds Try.pinned (OpenSpec.upto fnExactFieldPartSpec)

/-- 'laws.FnExactFieldTincture', WHERE WHAT IT READS IS OF BULK AT MOST 1048576: true; the input reads as it did. -/
def fnExactFieldTinctureUptoRow : OpenClaim := { program := "ytljeephifdopfaa", sum := "af55c0f26cf2139b0ad68f2e7f1921fcc82cdf6e9b41827936762336a6922f06", func := "loop.example/g00884/laws.FnExactFieldTincture", spec := "fnExactFieldTincture", apart := false, narrowed := true }
def FnExactFieldTinctureUptoSaid : Prop := fnExactFieldTinctureUptoRow.holds Try.pinned (OpenSpec.upto fnExactFieldTinctureSpec)

/-- 'laws.FnExactFieldRegion', WHERE WHAT IT READS IS OF BULK AT MOST 1048576: true; the input reads as it did. -/
def fnExactFieldRegionUptoRow : OpenClaim := { program := "ytljeephifdopfaa", sum := "af55c0f26cf2139b0ad68f2e7f1921fcc82cdf6e9b41827936762336a6922f06", func := "loop.example/g00884/laws.FnExactFieldRegion", spec := "fnExactFieldRegion", unfollowed := true, recurses := true, apart := false, narrowed := true }
def FnExactFieldRegionUptoSaid : Prop := fnExactFieldRegionUptoRow.holds Try.pinned (OpenSpec.upto fnExactFieldRegionSpec)

/-- 'laws.FnExactSwungCells', WHERE WHAT IT READS IS OF BULK AT MOST 1048576: true; the input reads as it did. -/
def fnExactSwungCellsUptoRow : OpenClaim := { program := "ytljeephifdopfaa", sum := "af55c0f26cf2139b0ad68f2e7f1921fcc82cdf6e9b41827936762336a6922f06", func := "loop.example/g00884/laws.FnExactSwungCells", spec := "fnExactSwungCells", unfollowed := true, recurses := true, apart := false, narrowed := true }
def FnExactSwungCellsUptoSaid : Prop := fnExactSwungCellsUptoRow.holds Try.pinned (OpenSpec.upto fnExactSwungCellsSpec)

/-- 'laws.FnLines', WHERE WHAT IT READS IS OF BULK AT MOST 1048576: true; the input reads as it did. -/
def fnLinesUptoRow : OpenClaim := { program := "ytljeephifdopfaa", sum := "af55c0f26cf2139b0ad68f2e7f1921fcc82cdf6e9b41827936762336a6922f06", func := "loop.example/g00884/laws.FnLines", spec := "fnLines", unfollowed := true, recurses := true, apart := false, narrowed := true }
def FnLinesUptoSaid : Prop := fnLinesUptoRow.holds Try.pinned (OpenSpec.upto fnLinesSpec)

/-- 'laws.FnCurves', WHERE WHAT IT READS IS OF BULK AT MOST 1048576: true; the input reads as it did. -/
def fnCurvesUptoRow : OpenClaim := { program := "ytljeephifdopfaa", sum := "af55c0f26cf2139b0ad68f2e7f1921fcc82cdf6e9b41827936762336a6922f06", func := "loop.example/g00884/laws.FnCurves", spec := "fnCurves", unfollowed := true, recurses := true, apart := false, narrowed := true }
def FnCurvesUptoSaid : Prop := fnCurvesUptoRow.holds Try.pinned (OpenSpec.upto fnCurvesSpec)

/-- 'laws.FnExactArmsOrdinary', WHERE WHAT IT READS IS OF BULK AT MOST 1048576: true; the input reads as it did. -/
def fnExactArmsOrdinaryUptoRow : OpenClaim := { program := "ytljeephifdopfaa", sum := "af55c0f26cf2139b0ad68f2e7f1921fcc82cdf6e9b41827936762336a6922f06", func := "loop.example/g00884/laws.FnExactArmsOrdinary", spec := "fnExactArmsOrdinary", unfollowed := true, recurses := true, apart := false, narrowed := true }
def FnExactArmsOrdinaryUptoSaid : Prop := fnExactArmsOrdinaryUptoRow.holds Try.pinned (OpenSpec.upto fnExactArmsOrdinarySpec)

/-- 'laws.FnExactGroundOf', WHERE WHAT IT READS IS OF BULK AT MOST 1048576: true; the input reads as it did. -/
def fnExactGroundOfUptoRow : OpenClaim := { program := "ytljeephifdopfaa", sum := "af55c0f26cf2139b0ad68f2e7f1921fcc82cdf6e9b41827936762336a6922f06", func := "loop.example/g00884/laws.FnExactGroundOf", spec := "fnExactGroundOf", unfollowed := true, recurses := true, apart := false, narrowed := true }
def FnExactGroundOfUptoSaid : Prop := fnExactGroundOfUptoRow.holds Try.pinned (OpenSpec.upto fnExactGroundOfSpec)

/-- 'laws.FnExactOtherTincture', WHERE WHAT IT READS IS OF BULK AT MOST 1048576: true; the input reads as it did. -/
def fnExactOtherTinctureUptoRow : OpenClaim := { program := "ytljeephifdopfaa", sum := "af55c0f26cf2139b0ad68f2e7f1921fcc82cdf6e9b41827936762336a6922f06", func := "loop.example/g00884/laws.FnExactOtherTincture", spec := "fnExactOtherTincture", apart := false, narrowed := true }
def FnExactOtherTinctureUptoSaid : Prop := fnExactOtherTinctureUptoRow.holds Try.pinned (OpenSpec.upto fnExactOtherTinctureSpec)

end Rows
end Go.Proofs.Ytljeephifdopfaa
