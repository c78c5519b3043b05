/-
  No cell of these rows narrows 'for every input' (looked for: loops, veiled, ifaces, maps, wideKeys, modest, calm, conditions, laid).
  DERIVED. THE GIVEN ROWS OF THIS SEAT. 7 by the template 'for every input the law returns true; each argument reads behind the call as it read before'; 0 by the template 'total and deterministic' (their statements: YtpboheaiigbfbaaTotals.lean).
  GIVEN WITH THE SEED: the statements are not yours to turn. If you find one false, say at which input.
  Laid BY PROGRAM, IN A SANDBOX (cutbox-rows.mjs): the forced cells as the released guide's own fill.sh prints them over the translation aa548c1604be3b8d… (all of the seat's roots in one cut). By AI agents, Wed Nov 11 2026. No macro, syntax, notation, axiom, sorry.
-/
import Derived.Test.YtpboheaiigbfbaaChecked
import GoSem.Claim
import GoSem.ClaimJoined
import GoSem.ClaimMapViews
import Derived.JoinedTies
import Derived.KernelRfl
namespace Go.Proofs.Ytpboheaiigbfbaa
/- THE CELL 'sum', in the pinned program and in every row, IS THE sha256 OF THE DUMP (.gsa) THAT YtpboheaiigbfbaaProg.lean LOADS. Nothing in Lean hashes anything: it is a label: what it is worth is what the hold of that sum in a sandbox is worth. -/
noncomputable def Try.pinned : Pinned := { name := "ytpboheaiigbfbaa", sum := "aa548c1604be3b8d4f93655fc600080b3acbb474bac1f8ae8501583ed3b1bedd", checked := Try.checked }
namespace Rows
def none {H : Type} : Left H := { results := [], args := [] }

/-- 'laws.FnExactDifferenceKinds': WHATEVER THE INPUT: true; the input reads as it did. -/
def fnExactDifferenceKindsSpec : ChangeSpec := { name := "fnExactDifferenceKinds", fn := fun _ => fun
  | [d1, d2] => { results := [.lit (.bool true)], args := [d1, d2] }
  | _ => none }
def fnExactDifferenceKindsRow : OpenClaim := { program := "ytpboheaiigbfbaa", sum := "aa548c1604be3b8d4f93655fc600080b3acbb474bac1f8ae8501583ed3b1bedd", func := "loop.example/g00884/laws.FnExactDifferenceKinds", spec := "fnExactDifferenceKinds", unfollowed := true, recurses := true, apart := false }
def FnExactDifferenceKindsSaid : Prop := fnExactDifferenceKindsRow.holds Try.pinned (OpenSpec.ofChange fnExactDifferenceKindsSpec)

/-- ITS FALSE NEIGHBOUR: 'it returns false'. Refute it at one input. -/
def fnExactDifferenceKindsWrong : ChangeSpec := { name := "fnExactDifferenceKinds", fn := fun _ => fun
  | [d1, d2] => { results := [.lit (.bool false)], args := [d1, d2] }
  | _ => none }
def FnExactDifferenceKindsWrongFalsely : Prop := fnExactDifferenceKindsRow.holds Try.pinned (OpenSpec.ofChange fnExactDifferenceKindsWrong)

/-- 'laws.FnExactRepairArms': WHATEVER THE INPUT: true; the input reads as it did. -/
def fnExactRepairArmsSpec : ChangeSpec := { name := "fnExactRepairArms", fn := fun _ => fun
  | [d] => { results := [.lit (.bool true)], args := [d] }
  | _ => none }
def fnExactRepairArmsRow : OpenClaim := { program := "ytpboheaiigbfbaa", sum := "aa548c1604be3b8d4f93655fc600080b3acbb474bac1f8ae8501583ed3b1bedd", func := "loop.example/g00884/laws.FnExactRepairArms", spec := "fnExactRepairArms", apart := false }
def FnExactRepairArmsSaid : Prop := fnExactRepairArmsRow.holds Try.pinned (OpenSpec.ofChange fnExactRepairArmsSpec)

/-- ITS FALSE NEIGHBOUR: 'it returns false'. Refute it at one input. -/
def fnExactRepairArmsWrong : ChangeSpec := { name := "fnExactRepairArms", fn := fun _ => fun
  | [d] => { results := [.lit (.bool false)], args := [d] }
  | _ => none }
def FnExactRepairArmsWrongFalsely : Prop := fnExactRepairArmsRow.holds Try.pinned (OpenSpec.ofChange fnExactRepairArmsWrong)

/-- 'laws.FnExactNearestArms': WHATEVER THE INPUT: true; the input reads as it did. -/
def fnExactNearestArmsSpec : ChangeSpec := { name := "fnExactNearestArms", fn := fun _ => fun
  | [d1, d2] => { results := [.lit (.bool true)], args := [d1, d2] }
  | _ => none }
def fnExactNearestArmsRow : OpenClaim := { program := "ytpboheaiigbfbaa", sum := "aa548c1604be3b8d4f93655fc600080b3acbb474bac1f8ae8501583ed3b1bedd", func := "loop.example/g00884/laws.FnExactNearestArms", spec := "fnExactNearestArms", unfollowed := true, recurses := true, apart := false }
def FnExactNearestArmsSaid : Prop := fnExactNearestArmsRow.holds Try.pinned (OpenSpec.ofChange fnExactNearestArmsSpec)

/-- ITS FALSE NEIGHBOUR: 'it returns false'. Refute it at one input. -/
def fnExactNearestArmsWrong : ChangeSpec := { name := "fnExactNearestArms", fn := fun _ => fun
  | [d1, d2] => { results := [.lit (.bool false)], args := [d1, d2] }
  | _ => none }
def FnExactNearestArmsWrongFalsely : Prop := fnExactNearestArmsRow.holds Try.pinned (OpenSpec.ofChange fnExactNearestArmsWrong)

/-- 'laws.FnExactFreeTinctures': WHATEVER THE INPUT: true; the input reads as it did. -/
def fnExactFreeTincturesSpec : ChangeSpec := { name := "fnExactFreeTinctures", fn := fun _ => fun
  | [d1, d2] => { results := [.lit (.bool true)], args := [d1, d2] }
  | _ => none }
def fnExactFreeTincturesRow : OpenClaim := { program := "ytpboheaiigbfbaa", sum := "aa548c1604be3b8d4f93655fc600080b3acbb474bac1f8ae8501583ed3b1bedd", func := "loop.example/g00884/laws.FnExactFreeTinctures", spec := "fnExactFreeTinctures", unfollowed := true, recurses := true, apart := false }
def FnExactFreeTincturesSaid : Prop := fnExactFreeTincturesRow.holds Try.pinned (OpenSpec.ofChange fnExactFreeTincturesSpec)

/-- ITS FALSE NEIGHBOUR: 'it returns false'. Refute it at one input. -/
def fnExactFreeTincturesWrong : ChangeSpec := { name := "fnExactFreeTinctures", fn := fun _ => fun
  | [d1, d2] => { results := [.lit (.bool false)], args := [d1, d2] }
  | _ => none }
def FnExactFreeTincturesWrongFalsely : Prop := fnExactFreeTincturesRow.holds Try.pinned (OpenSpec.ofChange fnExactFreeTincturesWrong)

/-- 'laws.FnExactDifferenceTable': WHATEVER THE INPUT: true; the input reads as it did. -/
def fnExactDifferenceTableSpec : ChangeSpec := { name := "fnExactDifferenceTable", fn := fun _ => fun
  | [d] => { results := [.lit (.bool true)], args := [d] }
  | _ => none }
def fnExactDifferenceTableRow : OpenClaim := { program := "ytpboheaiigbfbaa", sum := "aa548c1604be3b8d4f93655fc600080b3acbb474bac1f8ae8501583ed3b1bedd", func := "loop.example/g00884/laws.FnExactDifferenceTable", spec := "fnExactDifferenceTable", unfollowed := true, recurses := true, apart := false }
def FnExactDifferenceTableSaid : Prop := fnExactDifferenceTableRow.holds Try.pinned (OpenSpec.ofChange fnExactDifferenceTableSpec)

/-- ITS FALSE NEIGHBOUR: 'it returns false'. Refute it at one input. -/
def fnExactDifferenceTableWrong : ChangeSpec := { name := "fnExactDifferenceTable", fn := fun _ => fun
  | [d] => { results := [.lit (.bool false)], args := [d] }
  | _ => none }
def FnExactDifferenceTableWrongFalsely : Prop := fnExactDifferenceTableRow.holds Try.pinned (OpenSpec.ofChange fnExactDifferenceTableWrong)

/-- 'laws.FnExactMostDistinct': WHATEVER THE INPUT: true; the input reads as it did. -/
def fnExactMostDistinctSpec : ChangeSpec := { name := "fnExactMostDistinct", fn := fun _ => fun
  | [d] => { results := [.lit (.bool true)], args := [d] }
  | _ => none }
def fnExactMostDistinctRow : OpenClaim := { program := "ytpboheaiigbfbaa", sum := "aa548c1604be3b8d4f93655fc600080b3acbb474bac1f8ae8501583ed3b1bedd", func := "loop.example/g00884/laws.FnExactMostDistinct", spec := "fnExactMostDistinct", unfollowed := true, recurses := true, apart := false }
def FnExactMostDistinctSaid : Prop := fnExactMostDistinctRow.holds Try.pinned (OpenSpec.ofChange fnExactMostDistinctSpec)

/-- ITS FALSE NEIGHBOUR: 'it returns false'. Refute it at one input. -/
def fnExactMostDistinctWrong : ChangeSpec := { name := "fnExactMostDistinct", fn := fun _ => fun
  | [d] => { results := [.lit (.bool false)], args := [d] }
  | _ => none }
def FnExactMostDistinctWrongFalsely : Prop := fnExactMostDistinctRow.holds Try.pinned (OpenSpec.ofChange fnExactMostDistinctWrong)

/-- 'laws.FnExactClusters': WHATEVER THE INPUT: true; the input reads as it did. -/
def fnExactClustersSpec : ChangeSpec := { name := "fnExactClusters", fn := fun _ => fun
  | [d1, d2] => { results := [.lit (.bool true)], args := [d1, d2] }
  | _ => none }
def fnExactClustersRow : OpenClaim := { program := "ytpboheaiigbfbaa", sum := "aa548c1604be3b8d4f93655fc600080b3acbb474bac1f8ae8501583ed3b1bedd", func := "loop.example/g00884/laws.FnExactClusters", spec := "fnExactClusters", unfollowed := true, recurses := true, apart := false }
def FnExactClustersSaid : Prop := fnExactClustersRow.holds Try.pinned (OpenSpec.ofChange fnExactClustersSpec)

/-- ITS FALSE NEIGHBOUR: 'it returns false'. Refute it at one input. -/
def fnExactClustersWrong : ChangeSpec := { name := "fnExactClusters", fn := fun _ => fun
  | [d1, d2] => { results := [.lit (.bool false)], args := [d1, d2] }
  | _ => none }
def FnExactClustersWrongFalsely : Prop := fnExactClustersRow.holds Try.pinned (OpenSpec.ofChange fnExactClustersWrong)

/- THE SECOND FORM. 'bulk': how many values and letters a reading holds, each counted each time it is reached (what is shared counts as often as it is met; a slice's spare places count too). A statement '..UptoSaid' is the law's where the arguments, and the package variables that the reading takes, are together of bulk at most 1048576: NARROWER than '..Said'. Prove '..Said' where nothing that the law and all that it calls make is longer than what came in: it says more and counts as full. Else prove '..UptoSaid'. A law counts once. -/
mutual
def uptoBulk {H : Type} : DataW H → Nat
  | .lit (.string bytes) => bytes.length + 1
  | .lit _ => 1
  | .nil => 1
  | .ptr d => uptoBulk d + 1
  | .slice elems spare => uptoBulkAll elems + uptoBulkAll spare + 1
  | .agg parts => uptoBulkAll parts + 1
  | .iface _ d => uptoBulk d + 1
  | .map entries => uptoBulkEntries entries + 1
  | .held _ => 1
def uptoBulkAll {H : Type} : List (DataW H) → Nat
  | [] => 0
  | d :: r => uptoBulk d + uptoBulkAll r
def uptoBulkEntries {H : Type} : List (Lit × DataW H) → Nat
  | [] => 0
  | x :: r => uptoBulkEntry x + uptoBulkEntries r
def uptoBulkEntry {H : Type} : Lit × DataW H → Nat
  | (.string bytes, d) => bytes.length + uptoBulk d + 1
  | (_, d) => uptoBulk d + 1
 end
def uptoSmall : (H : Type) → List (DataW H) → Bool := fun _ ds => decide (uptoBulkAll ds ≤ 1048576)
def OpenSpec.upto (s : _root_.Go.ChangeSpec) : _root_.Go.OpenSpec := { _root_.Go.OpenSpec.ofChange s with cond := some uptoSmall }

/-- 'laws.FnExactDifferenceKinds', WHERE WHAT IT READS IS OF BULK AT MOST 1048576: true; the input reads as it did. -/
def fnExactDifferenceKindsUptoRow : OpenClaim := { program := "ytpboheaiigbfbaa", sum := "aa548c1604be3b8d4f93655fc600080b3acbb474bac1f8ae8501583ed3b1bedd", func := "loop.example/g00884/laws.FnExactDifferenceKinds", spec := "fnExactDifferenceKinds", unfollowed := true, recurses := true, apart := false, narrowed := true }
def FnExactDifferenceKindsUptoSaid : Prop := fnExactDifferenceKindsUptoRow.holds Try.pinned (OpenSpec.upto fnExactDifferenceKindsSpec)

/-- 'laws.FnExactRepairArms', WHERE WHAT IT READS IS OF BULK AT MOST 1048576: true; the input reads as it did. -/
def fnExactRepairArmsUptoRow : OpenClaim := { program := "ytpboheaiigbfbaa", sum := "aa548c1604be3b8d4f93655fc600080b3acbb474bac1f8ae8501583ed3b1bedd", func := "loop.example/g00884/laws.FnExactRepairArms", spec := "fnExactRepairArms", apart := false, narrowed := true }
def FnExactRepairArmsUptoSaid : Prop := fnExactRepairArmsUptoRow.holds Try.pinned (OpenSpec.upto fnExactRepairArmsSpec)

/-- 'laws.FnExactNearestArms', WHERE WHAT IT READS IS OF BULK AT MOST 1048576: true; the input reads as it did. -/
def fnExactNearestArmsUptoRow : OpenClaim := { program := "ytpboheaiigbfbaa", sum := "aa548c1604be3b8d4f93655fc600080b3acbb474bac1f8ae8501583ed3b1bedd", func := "loop.example/g00884/laws.FnExactNearestArms", spec := "fnExactNearestArms", unfollowed := true, recurses := true, apart := false, narrowed := true }
def FnExactNearestArmsUptoSaid : Prop := fnExactNearestArmsUptoRow.holds Try.pinned (OpenSpec.upto fnExactNearestArmsSpec)

/-- 'laws.FnExactFreeTinctures', WHERE WHAT IT READS IS OF BULK AT MOST 1048576: true; the input reads as it did. -/
def fnExactFreeTincturesUptoRow : OpenClaim := { program := "ytpboheaiigbfbaa", sum := "aa548c1604be3b8d4f93655fc600080b3acbb474bac1f8ae8501583ed3b1bedd", func := "loop.example/g00884/laws.FnExactFreeTinctures", spec := "fnExactFreeTinctures", unfollowed := true, recurses := true, apart := false, narrowed := true }
def FnExactFreeTincturesUptoSaid : Prop := fnExactFreeTincturesUptoRow.holds Try.pinned (OpenSpec.upto fnExactFreeTincturesSpec)

/-- 'laws.FnExactDifferenceTable', WHERE WHAT IT READS IS OF BULK AT MOST 1048576: true; the input reads as it did. -/
def fnExactDifferenceTableUptoRow : OpenClaim := { program := "ytpboheaiigbfbaa", sum := "aa548c1604be3b8d4f93655fc600080b3acbb474bac1f8ae8501583ed3b1bedd", func := "loop.example/g00884/laws.FnExactDifferenceTable", spec := "fnExactDifferenceTable", unfollowed := true, recurses := true, apart := false, narrowed := true }
def FnExactDifferenceTableUptoSaid : Prop := fnExactDifferenceTableUptoRow.holds Try.pinned (OpenSpec.upto fnExactDifferenceTableSpec)

/-- 'laws.FnExactMostDistinct', WHERE WHAT IT READS IS OF BULK AT MOST 1048576: true; the input reads as it did. -/
def fnExactMostDistinctUptoRow : OpenClaim := { program := "ytpboheaiigbfbaa", sum := "aa548c1604be3b8d4f93655fc600080b3acbb474bac1f8ae8501583ed3b1bedd", func := "loop.example/g00884/laws.FnExactMostDistinct", spec := "fnExactMostDistinct", unfollowed := true, recurses := true, apart := false, narrowed := true }
def FnExactMostDistinctUptoSaid : Prop := fnExactMostDistinctUptoRow.holds Try.pinned (OpenSpec.upto fnExactMostDistinctSpec)

/-- 'laws.FnExactClusters', WHERE WHAT IT READS IS OF BULK AT MOST 1048576: true; the input reads as it did. -/
def fnExactClustersUptoRow : OpenClaim := { program := "ytpboheaiigbfbaa", sum := "aa548c1604be3b8d4f93655fc600080b3acbb474bac1f8ae8501583ed3b1bedd", func := "loop.example/g00884/laws.FnExactClusters", spec := "fnExactClusters", unfollowed := true, recurses := true, apart := false, narrowed := true }
def FnExactClustersUptoSaid : Prop := fnExactClustersUptoRow.holds Try.pinned (OpenSpec.upto fnExactClustersSpec)

end Rows
end Go.Proofs.Ytpboheaiigbfbaa
