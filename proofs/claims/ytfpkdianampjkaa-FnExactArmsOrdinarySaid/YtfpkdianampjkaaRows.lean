/-
  No cell of these rows narrows 'for every input' (looked for: loops, veiled, ifaces, maps, wideKeys, modest, calm, conditions, laid).
  DERIVED. THE GIVEN ROWS OF THIS SEAT. 11 by the template 'for every input the law returns true; each argument reads behind the call as it read before'; 0 by the template 'total and deterministic' (their statements: YtfpkdianampjkaaTotals.lean).
  GIVEN WITH THE SEED: the statements are not yours to turn. If you find one false, say at which input.
  Laid BY PROGRAM, IN A SANDBOX (cutbox-rows.mjs): the forced cells as the released guide's own fill.sh prints them over the translation 788397d8a944dcc1… (all of the seat's roots in one cut). By AI agents, Wed Nov 11 2026. No macro, syntax, notation, axiom, sorry.
-/
import Derived.Test.YtfpkdianampjkaaChecked
import GoSem.Claim
import GoSem.ClaimJoined
import GoSem.ClaimMapViews
import Derived.JoinedTies
import Derived.KernelRfl
namespace Go.Proofs.Ytfpkdianampjkaa
/- THE CELL 'sum', in the pinned program and in every row, IS THE sha256 OF THE DUMP (.gsa) THAT YtfpkdianampjkaaProg.lean LOADS. Nothing in Lean hashes anything: it is a label: what it is worth is what the hold of that sum in a sandbox is worth. -/
noncomputable def Try.pinned : Pinned := { name := "ytfpkdianampjkaa", sum := "788397d8a944dcc17549511b25d49cd660c6575cbd01ed9eb178091f3e473182", checked := Try.checked }
namespace Rows
def none {H : Type} : Left H := { results := [], args := [] }

/-- 'laws.FnExactArmsDifferences': WHATEVER THE INPUT: true; the input reads as it did. -/
def fnExactArmsDifferencesSpec : ChangeSpec := { name := "fnExactArmsDifferences", fn := fun _ => fun
  | [d1, d2] => { results := [.lit (.bool true)], args := [d1, d2] }
  | _ => none }
def fnExactArmsDifferencesRow : OpenClaim := { program := "ytfpkdianampjkaa", sum := "788397d8a944dcc17549511b25d49cd660c6575cbd01ed9eb178091f3e473182", func := "loop.example/g00884/laws.FnExactArmsDifferences", spec := "fnExactArmsDifferences", apart := false }
def FnExactArmsDifferencesSaid : Prop := fnExactArmsDifferencesRow.holds Try.pinned (OpenSpec.ofChange fnExactArmsDifferencesSpec)

/-- ITS FALSE NEIGHBOUR: 'it returns false'. Refute it at one input. -/
def fnExactArmsDifferencesWrong : ChangeSpec := { name := "fnExactArmsDifferences", fn := fun _ => fun
  | [d1, d2] => { results := [.lit (.bool false)], args := [d1, d2] }
  | _ => none }
def FnExactArmsDifferencesWrongFalsely : Prop := fnExactArmsDifferencesRow.holds Try.pinned (OpenSpec.ofChange fnExactArmsDifferencesWrong)

/-- 'laws.FnExactConflict': WHATEVER THE INPUT: true; the input reads as it did. -/
def fnExactConflictSpec : ChangeSpec := { name := "fnExactConflict", fn := fun _ => fun
  | [d1, d2] => { results := [.lit (.bool true)], args := [d1, d2] }
  | _ => none }
def fnExactConflictRow : OpenClaim := { program := "ytfpkdianampjkaa", sum := "788397d8a944dcc17549511b25d49cd660c6575cbd01ed9eb178091f3e473182", func := "loop.example/g00884/laws.FnExactConflict", spec := "fnExactConflict", apart := false }
def FnExactConflictSaid : Prop := fnExactConflictRow.holds Try.pinned (OpenSpec.ofChange fnExactConflictSpec)

/-- ITS FALSE NEIGHBOUR: 'it returns false'. Refute it at one input. -/
def fnExactConflictWrong : ChangeSpec := { name := "fnExactConflict", fn := fun _ => fun
  | [d1, d2] => { results := [.lit (.bool false)], args := [d1, d2] }
  | _ => none }
def FnExactConflictWrongFalsely : Prop := fnExactConflictRow.holds Try.pinned (OpenSpec.ofChange fnExactConflictWrong)

/-- 'laws.FnExactDifferenceKinds': WHATEVER THE INPUT: true; the input reads as it did. -/
def fnExactDifferenceKindsSpec : ChangeSpec := { name := "fnExactDifferenceKinds", fn := fun _ => fun
  | [d1, d2] => { results := [.lit (.bool true)], args := [d1, d2] }
  | _ => none }
def fnExactDifferenceKindsRow : OpenClaim := { program := "ytfpkdianampjkaa", sum := "788397d8a944dcc17549511b25d49cd660c6575cbd01ed9eb178091f3e473182", func := "loop.example/g00884/laws.FnExactDifferenceKinds", spec := "fnExactDifferenceKinds", unfollowed := true, recurses := true, apart := false }
def FnExactDifferenceKindsSaid : Prop := fnExactDifferenceKindsRow.holds Try.pinned (OpenSpec.ofChange fnExactDifferenceKindsSpec)

/-- ITS FALSE NEIGHBOUR: 'it returns false'. Refute it at one input. -/
def fnExactDifferenceKindsWrong : ChangeSpec := { name := "fnExactDifferenceKinds", fn := fun _ => fun
  | [d1, d2] => { results := [.lit (.bool false)], args := [d1, d2] }
  | _ => none }
def FnExactDifferenceKindsWrongFalsely : Prop := fnExactDifferenceKindsRow.holds Try.pinned (OpenSpec.ofChange fnExactDifferenceKindsWrong)

/-- 'laws.FnExactRepairArms': WHATEVER THE INPUT: true; the input reads as it did. -/
def fnExactRepairArmsSpec : ChangeSpec := { name := "fnExactRepairArms", fn := fun _ => fun
  | [d] => { results := [.lit (.bool true)], args := [d] }
  | _ => none }
def fnExactRepairArmsRow : OpenClaim := { program := "ytfpkdianampjkaa", sum := "788397d8a944dcc17549511b25d49cd660c6575cbd01ed9eb178091f3e473182", func := "loop.example/g00884/laws.FnExactRepairArms", spec := "fnExactRepairArms", apart := false }
def FnExactRepairArmsSaid : Prop := fnExactRepairArmsRow.holds Try.pinned (OpenSpec.ofChange fnExactRepairArmsSpec)

/-- ITS FALSE NEIGHBOUR: 'it returns false'. Refute it at one input. -/
def fnExactRepairArmsWrong : ChangeSpec := { name := "fnExactRepairArms", fn := fun _ => fun
  | [d] => { results := [.lit (.bool false)], args := [d] }
  | _ => none }
def FnExactRepairArmsWrongFalsely : Prop := fnExactRepairArmsRow.holds Try.pinned (OpenSpec.ofChange fnExactRepairArmsWrong)

/-- 'laws.FnExactArmsOrdinary': WHATEVER THE INPUT: true; the input reads as it did. -/
def fnExactArmsOrdinarySpec : ChangeSpec := { name := "fnExactArmsOrdinary", fn := fun _ => fun
  | [d] => { results := [.lit (.bool true)], args := [d] }
  | _ => none }
def fnExactArmsOrdinaryRow : OpenClaim := { program := "ytfpkdianampjkaa", sum := "788397d8a944dcc17549511b25d49cd660c6575cbd01ed9eb178091f3e473182", func := "loop.example/g00884/laws.FnExactArmsOrdinary", spec := "fnExactArmsOrdinary", unfollowed := true, recurses := true, apart := false }
def FnExactArmsOrdinarySaid : Prop := fnExactArmsOrdinaryRow.holds Try.pinned (OpenSpec.ofChange fnExactArmsOrdinarySpec)

/-- ITS FALSE NEIGHBOUR: 'it returns false'. Refute it at one input. -/
def fnExactArmsOrdinaryWrong : ChangeSpec := { name := "fnExactArmsOrdinary", fn := fun _ => fun
  | [d] => { results := [.lit (.bool false)], args := [d] }
  | _ => none }
def FnExactArmsOrdinaryWrongFalsely : Prop := fnExactArmsOrdinaryRow.holds Try.pinned (OpenSpec.ofChange fnExactArmsOrdinaryWrong)

/-- 'laws.FnExactGroundOf': WHATEVER THE INPUT: true; the input reads as it did. -/
def fnExactGroundOfSpec : ChangeSpec := { name := "fnExactGroundOf", fn := fun _ => fun
  | [d] => { results := [.lit (.bool true)], args := [d] }
  | _ => none }
def fnExactGroundOfRow : OpenClaim := { program := "ytfpkdianampjkaa", sum := "788397d8a944dcc17549511b25d49cd660c6575cbd01ed9eb178091f3e473182", func := "loop.example/g00884/laws.FnExactGroundOf", spec := "fnExactGroundOf", unfollowed := true, recurses := true, apart := false }
def FnExactGroundOfSaid : Prop := fnExactGroundOfRow.holds Try.pinned (OpenSpec.ofChange fnExactGroundOfSpec)

/-- ITS FALSE NEIGHBOUR: 'it returns false'. Refute it at one input. -/
def fnExactGroundOfWrong : ChangeSpec := { name := "fnExactGroundOf", fn := fun _ => fun
  | [d] => { results := [.lit (.bool false)], args := [d] }
  | _ => none }
def FnExactGroundOfWrongFalsely : Prop := fnExactGroundOfRow.holds Try.pinned (OpenSpec.ofChange fnExactGroundOfWrong)

/-- 'laws.FnExactNearestArms': WHATEVER THE INPUT: true; the input reads as it did. -/
def fnExactNearestArmsSpec : ChangeSpec := { name := "fnExactNearestArms", fn := fun _ => fun
  | [d1, d2] => { results := [.lit (.bool true)], args := [d1, d2] }
  | _ => none }
def fnExactNearestArmsRow : OpenClaim := { program := "ytfpkdianampjkaa", sum := "788397d8a944dcc17549511b25d49cd660c6575cbd01ed9eb178091f3e473182", func := "loop.example/g00884/laws.FnExactNearestArms", spec := "fnExactNearestArms", unfollowed := true, recurses := true, apart := false }
def FnExactNearestArmsSaid : Prop := fnExactNearestArmsRow.holds Try.pinned (OpenSpec.ofChange fnExactNearestArmsSpec)

/-- ITS FALSE NEIGHBOUR: 'it returns false'. Refute it at one input. -/
def fnExactNearestArmsWrong : ChangeSpec := { name := "fnExactNearestArms", fn := fun _ => fun
  | [d1, d2] => { results := [.lit (.bool false)], args := [d1, d2] }
  | _ => none }
def FnExactNearestArmsWrongFalsely : Prop := fnExactNearestArmsRow.holds Try.pinned (OpenSpec.ofChange fnExactNearestArmsWrong)

/-- 'laws.FnExactFreeTinctures': WHATEVER THE INPUT: true; the input reads as it did. -/
def fnExactFreeTincturesSpec : ChangeSpec := { name := "fnExactFreeTinctures", fn := fun _ => fun
  | [d1, d2] => { results := [.lit (.bool true)], args := [d1, d2] }
  | _ => none }
def fnExactFreeTincturesRow : OpenClaim := { program := "ytfpkdianampjkaa", sum := "788397d8a944dcc17549511b25d49cd660c6575cbd01ed9eb178091f3e473182", func := "loop.example/g00884/laws.FnExactFreeTinctures", spec := "fnExactFreeTinctures", unfollowed := true, recurses := true, apart := false }
def FnExactFreeTincturesSaid : Prop := fnExactFreeTincturesRow.holds Try.pinned (OpenSpec.ofChange fnExactFreeTincturesSpec)

/-- ITS FALSE NEIGHBOUR: 'it returns false'. Refute it at one input. -/
def fnExactFreeTincturesWrong : ChangeSpec := { name := "fnExactFreeTinctures", fn := fun _ => fun
  | [d1, d2] => { results := [.lit (.bool false)], args := [d1, d2] }
  | _ => none }
def FnExactFreeTincturesWrongFalsely : Prop := fnExactFreeTincturesRow.holds Try.pinned (OpenSpec.ofChange fnExactFreeTincturesWrong)

/-- 'laws.FnExactDifferenceTable': WHATEVER THE INPUT: true; the input reads as it did. -/
def fnExactDifferenceTableSpec : ChangeSpec := { name := "fnExactDifferenceTable", fn := fun _ => fun
  | [d] => { results := [.lit (.bool true)], args := [d] }
  | _ => none }
def fnExactDifferenceTableRow : OpenClaim := { program := "ytfpkdianampjkaa", sum := "788397d8a944dcc17549511b25d49cd660c6575cbd01ed9eb178091f3e473182", func := "loop.example/g00884/laws.FnExactDifferenceTable", spec := "fnExactDifferenceTable", unfollowed := true, recurses := true, apart := false }
def FnExactDifferenceTableSaid : Prop := fnExactDifferenceTableRow.holds Try.pinned (OpenSpec.ofChange fnExactDifferenceTableSpec)

/-- ITS FALSE NEIGHBOUR: 'it returns false'. Refute it at one input. -/
def fnExactDifferenceTableWrong : ChangeSpec := { name := "fnExactDifferenceTable", fn := fun _ => fun
  | [d] => { results := [.lit (.bool false)], args := [d] }
  | _ => none }
def FnExactDifferenceTableWrongFalsely : Prop := fnExactDifferenceTableRow.holds Try.pinned (OpenSpec.ofChange fnExactDifferenceTableWrong)

/-- 'laws.FnExactMostDistinct': WHATEVER THE INPUT: true; the input reads as it did. -/
def fnExactMostDistinctSpec : ChangeSpec := { name := "fnExactMostDistinct", fn := fun _ => fun
  | [d] => { results := [.lit (.bool true)], args := [d] }
  | _ => none }
def fnExactMostDistinctRow : OpenClaim := { program := "ytfpkdianampjkaa", sum := "788397d8a944dcc17549511b25d49cd660c6575cbd01ed9eb178091f3e473182", func := "loop.example/g00884/laws.FnExactMostDistinct", spec := "fnExactMostDistinct", unfollowed := true, recurses := true, apart := false }
def FnExactMostDistinctSaid : Prop := fnExactMostDistinctRow.holds Try.pinned (OpenSpec.ofChange fnExactMostDistinctSpec)

/-- ITS FALSE NEIGHBOUR: 'it returns false'. Refute it at one input. -/
def fnExactMostDistinctWrong : ChangeSpec := { name := "fnExactMostDistinct", fn := fun _ => fun
  | [d] => { results := [.lit (.bool false)], args := [d] }
  | _ => none }
def FnExactMostDistinctWrongFalsely : Prop := fnExactMostDistinctRow.holds Try.pinned (OpenSpec.ofChange fnExactMostDistinctWrong)

/-- 'laws.FnExactClusters': WHATEVER THE INPUT: true; the input reads as it did. -/
def fnExactClustersSpec : ChangeSpec := { name := "fnExactClusters", fn := fun _ => fun
  | [d1, d2] => { results := [.lit (.bool true)], args := [d1, d2] }
  | _ => none }
def fnExactClustersRow : OpenClaim := { program := "ytfpkdianampjkaa", sum := "788397d8a944dcc17549511b25d49cd660c6575cbd01ed9eb178091f3e473182", func := "loop.example/g00884/laws.FnExactClusters", spec := "fnExactClusters", unfollowed := true, recurses := true, apart := false }
def FnExactClustersSaid : Prop := fnExactClustersRow.holds Try.pinned (OpenSpec.ofChange fnExactClustersSpec)

/-- ITS FALSE NEIGHBOUR: 'it returns false'. Refute it at one input. -/
def fnExactClustersWrong : ChangeSpec := { name := "fnExactClusters", fn := fun _ => fun
  | [d1, d2] => { results := [.lit (.bool false)], args := [d1, d2] }
  | _ => none }
def FnExactClustersWrongFalsely : Prop := fnExactClustersRow.holds Try.pinned (OpenSpec.ofChange fnExactClustersWrong)

/- THE SECOND FORM. 'bulk': how many values and letters a reading holds, each counted each time it is reached (what is shared counts as often as it is met; a slice's spare places count too). A statement '..UptoSaid' is the law's where the arguments, and the package variables that the reading takes, are together of bulk at most 1048576: NARROWER than '..Said'. Prove '..Said' where nothing that the law and all that it calls make is longer than what came in: it says more and counts as full. Else prove '..UptoSaid'. A law counts once. -/
mutual
def uptoBulk {H : Type} : DataW H → Nat
  | .lit (.string bytes) => bytes.length + 1
  | .lit _ => 1
  | .nil => 1
  | .ptr d => uptoBulk d + 1
  | .slice elems spare => uptoBulkAll elems + uptoBulkAll spare + 1
  | .agg parts => uptoBulkAll parts + 1
  | .iface _ d => uptoBulk d + 1
  | .map entries => uptoBulkEntries entries + 1
  | .held _ => 1
def uptoBulkAll {H : Type} : List (DataW H) → Nat
  | [] => 0
  | d :: r => uptoBulk d + uptoBulkAll r
def uptoBulkEntries {H : Type} : List (Lit × DataW H) → Nat
  | [] => 0
  | x :: r => uptoBulkEntry x + uptoBulkEntries r
def uptoBulkEntry {H : Type} : Lit × DataW H → Nat
  | (.string bytes, d) => bytes.length + uptoBulk d + 1
  | (_, d) => uptoBulk d + 1
 end
def uptoSmall : (H : Type) → List (DataW H) → Bool := fun _ ds => decide (uptoBulkAll ds ≤ 1048576)
def OpenSpec.upto (s : _root_.Go.ChangeSpec) : _root_.Go.OpenSpec := { _root_.Go.OpenSpec.ofChange s with cond := some uptoSmall }

/-- 'laws.FnExactArmsDifferences', WHERE WHAT IT READS IS OF BULK AT MOST 1048576: true; the input reads as it did. -/
def fnExactArmsDifferencesUptoRow : OpenClaim := { program := "ytfpkdianampjkaa", sum := "788397d8a944dcc17549511b25d49cd660c6575cbd01ed9eb178091f3e473182", func := "loop.example/g00884/laws.FnExactArmsDifferences", spec := "fnExactArmsDifferences", apart := false, narrowed := true }
def FnExactArmsDifferencesUptoSaid : Prop := fnExactArmsDifferencesUptoRow.holds Try.pinned (OpenSpec.upto fnExactArmsDifferencesSpec)

/-- 'laws.FnExactConflict', WHERE WHAT IT READS IS OF BULK AT MOST 1048576: true; the input reads as it did. -/
def fnExactConflictUptoRow : OpenClaim := { program := "ytfpkdianampjkaa", sum := "788397d8a944dcc17549511b25d49cd660c6575cbd01ed9eb178091f3e473182", func := "loop.example/g00884/laws.FnExactConflict", spec := "fnExactConflict", apart := false, narrowed := true }
def FnExactConflictUptoSaid : Prop := fnExactConflictUptoRow.holds Try.pinned (OpenSpec.upto fnExactConflictSpec)

/-- 'laws.FnExactDifferenceKinds', WHERE WHAT IT READS IS OF BULK AT MOST 1048576: true; the input reads as it did. -/
def fnExactDifferenceKindsUptoRow : OpenClaim := { program := "ytfpkdianampjkaa", sum := "788397d8a944dcc17549511b25d49cd660c6575cbd01ed9eb178091f3e473182", func := "loop.example/g00884/laws.FnExactDifferenceKinds", spec := "fnExactDifferenceKinds", unfollowed := true, recurses := true, apart := false, narrowed := true }
def FnExactDifferenceKindsUptoSaid : Prop := fnExactDifferenceKindsUptoRow.holds Try.pinned (OpenSpec.upto fnExactDifferenceKindsSpec)

/-- 'laws.FnExactRepairArms', WHERE WHAT IT READS IS OF BULK AT MOST 1048576: true; the input reads as it did. -/
def fnExactRepairArmsUptoRow : OpenClaim := { program := "ytfpkdianampjkaa", sum := "788397d8a944dcc17549511b25d49cd660c6575cbd01ed9eb178091f3e473182", func := "loop.example/g00884/laws.FnExactRepairArms", spec := "fnExactRepairArms", apart := false, narrowed := true }
def FnExactRepairArmsUptoSaid : Prop := fnExactRepairArmsUptoRow.holds Try.pinned (OpenSpec.upto fnExactRepairArmsSpec)

/-- 'laws.FnExactArmsOrdinary', WHERE WHAT IT READS IS OF BULK AT MOST 1048576: true; the input reads as it did. -/
def fnExactArmsOrdinaryUptoRow : OpenClaim := { program := "ytfpkdianampjkaa", sum := "788397d8a944dcc17549511b25d49cd660c6575cbd01ed9eb178091f3e473182", func := "loop.example/g00884/laws.FnExactArmsOrdinary", spec := "fnExactArmsOrdinary", unfollowed := true, recurses := true, apart := false, narrowed := true }
def FnExactArmsOrdinaryUptoSaid : Prop := fnExactArmsOrdinaryUptoRow.holds Try.pinned (OpenSpec.upto fnExactArmsOrdinarySpec)

/-- 'laws.FnExactGroundOf', WHERE WHAT IT READS IS OF BULK AT MOST 1048576: true; the input reads as it did. -/
def fnExactGroundOfUptoRow : OpenClaim := { program := "ytfpkdianampjkaa", sum := "788397d8a944dcc17549511b25d49cd660c6575cbd01ed9eb178091f3e473182", func := "loop.example/g00884/laws.FnExactGroundOf", spec := "fnExactGroundOf", unfollowed := true, recurses := true, apart := false, narrowed := true }
def FnExactGroundOfUptoSaid : Prop := fnExactGroundOfUptoRow.holds Try.pinned (OpenSpec.upto fnExactGroundOfSpec)

/-- 'laws.FnExactNearestArms', WHERE WHAT IT READS IS OF BULK AT MOST 1048576: true; the input reads as it did. -/
def fnExactNearestArmsUptoRow : OpenClaim := { program := "ytfpkdianampjkaa", sum := "788397d8a944dcc17549511b25d49cd660c6575cbd01ed9eb178091f3e473182", func := "loop.example/g00884/laws.FnExactNearestArms", spec := "fnExactNearestArms", unfollowed := true, recurses := true, apart := false, narrowed := true }
def FnExactNearestArmsUptoSaid : Prop := fnExactNearestArmsUptoRow.holds Try.pinned (OpenSpec.upto fnExactNearestArmsSpec)

/-- 'laws.FnExactFreeTinctures', WHERE WHAT IT READS IS OF BULK AT MOST 1048576: true; the input reads as it did. -/
def fnExactFreeTincturesUptoRow : OpenClaim := { program := "ytfpkdianampjkaa", sum := "788397d8a944dcc17549511b25d49cd660c6575cbd01ed9eb178091f3e473182", func := "loop.example/g00884/laws.FnExactFreeTinctures", spec := "fnExactFreeTinctures", unfollowed := true, recurses := true, apart := false, narrowed := true }
def FnExactFreeTincturesUptoSaid : Prop := fnExactFreeTincturesUptoRow.holds Try.pinned (OpenSpec.upto fnExactFreeTincturesSpec)

/-- 'laws.FnExactDifferenceTable', WHERE WHAT IT READS IS OF BULK AT MOST 1048576: true; the input reads as it did. -/
def fnExactDifferenceTableUptoRow : OpenClaim := { program := "ytfpkdianampjkaa", sum := "788397d8a944dcc17549511b25d49cd660c6575cbd01ed9eb178091f3e473182", func := "loop.example/g00884/laws.FnExactDifferenceTable", spec := "fnExactDifferenceTable", unfollowed := true, recurses := true, apart := false, narrowed := true }
def FnExactDifferenceTableUptoSaid : Prop := fnExactDifferenceTableUptoRow.holds Try.pinned (OpenSpec.upto fnExactDifferenceTableSpec)

/-- 'laws.FnExactMostDistinct', WHERE WHAT IT READS IS OF BULK AT MOST 1048576: true; the input reads as it did. -/
def fnExactMostDistinctUptoRow : OpenClaim := { program := "ytfpkdianampjkaa", sum := "788397d8a944dcc17549511b25d49cd660c6575cbd01ed9eb178091f3e473182", func := "loop.example/g00884/laws.FnExactMostDistinct", spec := "fnExactMostDistinct", unfollowed := true, recurses := true, apart := false, narrowed := true }
def FnExactMostDistinctUptoSaid : Prop := fnExactMostDistinctUptoRow.holds Try.pinned (OpenSpec.upto fnExactMostDistinctSpec)

/-- 'laws.FnExactClusters', WHERE WHAT IT READS IS OF BULK AT MOST 1048576: true; the input reads as it did. -/
def fnExactClustersUptoRow : OpenClaim := { program := "ytfpkdianampjkaa", sum := "788397d8a944dcc17549511b25d49cd660c6575cbd01ed9eb178091f3e473182", func := "loop.example/g00884/laws.FnExactClusters", spec := "fnExactClusters", unfollowed := true, recurses := true, apart := false, narrowed := true }
def FnExactClustersUptoSaid : Prop := fnExactClustersUptoRow.holds Try.pinned (OpenSpec.upto fnExactClustersSpec)

end Rows
end Go.Proofs.Ytfpkdianampjkaa
