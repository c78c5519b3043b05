/-
  No cell of these rows narrows 'for every input' (looked for: loops, veiled, ifaces, maps, wideKeys, modest, calm, conditions, laid).
  DERIVED. THE GIVEN ROWS OF THIS SEAT. 3 by the template 'for every input the law returns true; each argument reads behind the call as it read before'; 0 by the template 'total and deterministic' (their statements: YtnpehlghbfmbaaaTotals.lean).
  GIVEN WITH THE SEED: the statements are not yours to turn. If you find one false, say at which input.
  Laid BY PROGRAM, IN A SANDBOX (cutbox-rows.mjs): the forced cells as the released guide's own fill.sh prints them over the translation 52053639430c9693… (all of the seat's roots in one cut). By AI agents, Wed Nov 11 2026. No macro, syntax, notation, axiom, sorry.
-/
import Derived.Test.YtnpehlghbfmbaaaChecked
import GoSem.Claim
import GoSem.ClaimJoined
import GoSem.ClaimMapViews
import Derived.JoinedTies
import Derived.KernelRfl
namespace Go.Proofs.Ytnpehlghbfmbaaa
/- THE CELL 'sum', in the pinned program and in every row, IS THE sha256 OF THE DUMP (.gsa) THAT YtnpehlghbfmbaaaProg.lean LOADS. Nothing in Lean hashes anything: it is a label: what it is worth is what the hold of that sum in a sandbox is worth. -/
noncomputable def Try.pinned : Pinned := { name := "ytnpehlghbfmbaaa", sum := "52053639430c96938d50a4b2d6d5988ee61ed605000ea7320160fffae3e52780", checked := Try.checked }
namespace Rows
def none {H : Type} : Left H := { results := [], args := [] }

/-- 'laws.FnExactGrantArms': WHATEVER THE INPUT: true; the input reads as it did. -/
def fnExactGrantArmsSpec : ChangeSpec := { name := "fnExactGrantArms", fn := fun _ => fun
  | [d1, d2, d3, d4] => { results := [.lit (.bool true)], args := [d1, d2, d3, d4] }
  | _ => none }
def fnExactGrantArmsRow : OpenClaim := { program := "ytnpehlghbfmbaaa", sum := "52053639430c96938d50a4b2d6d5988ee61ed605000ea7320160fffae3e52780", func := "loop.example/g00884/laws.FnExactGrantArms", spec := "fnExactGrantArms", unfollowed := true, recurses := true, apart := false }
def FnExactGrantArmsSaid : Prop := fnExactGrantArmsRow.holds Try.pinned (OpenSpec.ofChange fnExactGrantArmsSpec)

/-- ITS FALSE NEIGHBOUR: 'it returns false'. Refute it at one input. -/
def fnExactGrantArmsWrong : ChangeSpec := { name := "fnExactGrantArms", fn := fun _ => fun
  | [d1, d2, d3, d4] => { results := [.lit (.bool false)], args := [d1, d2, d3, d4] }
  | _ => none }
def FnExactGrantArmsWrongFalsely : Prop := fnExactGrantArmsRow.holds Try.pinned (OpenSpec.ofChange fnExactGrantArmsWrong)

/-- 'laws.FnExactRevokeGrant': WHATEVER THE INPUT: true; the input reads as it did. -/
def fnExactRevokeGrantSpec : ChangeSpec := { name := "fnExactRevokeGrant", fn := fun _ => fun
  | [d1, d2] => { results := [.lit (.bool true)], args := [d1, d2] }
  | _ => none }
def fnExactRevokeGrantRow : OpenClaim := { program := "ytnpehlghbfmbaaa", sum := "52053639430c96938d50a4b2d6d5988ee61ed605000ea7320160fffae3e52780", func := "loop.example/g00884/laws.FnExactRevokeGrant", spec := "fnExactRevokeGrant", unfollowed := true, recurses := true, apart := false }
def FnExactRevokeGrantSaid : Prop := fnExactRevokeGrantRow.holds Try.pinned (OpenSpec.ofChange fnExactRevokeGrantSpec)

/-- ITS FALSE NEIGHBOUR: 'it returns false'. Refute it at one input. -/
def fnExactRevokeGrantWrong : ChangeSpec := { name := "fnExactRevokeGrant", fn := fun _ => fun
  | [d1, d2] => { results := [.lit (.bool false)], args := [d1, d2] }
  | _ => none }
def FnExactRevokeGrantWrongFalsely : Prop := fnExactRevokeGrantRow.holds Try.pinned (OpenSpec.ofChange fnExactRevokeGrantWrong)

/-- 'laws.FnExactTransferGrant': WHATEVER THE INPUT: true; the input reads as it did. -/
def fnExactTransferGrantSpec : ChangeSpec := { name := "fnExactTransferGrant", fn := fun _ => fun
  | [d1, d2, d3] => { results := [.lit (.bool true)], args := [d1, d2, d3] }
  | _ => none }
def fnExactTransferGrantRow : OpenClaim := { program := "ytnpehlghbfmbaaa", sum := "52053639430c96938d50a4b2d6d5988ee61ed605000ea7320160fffae3e52780", func := "loop.example/g00884/laws.FnExactTransferGrant", spec := "fnExactTransferGrant", unfollowed := true, recurses := true, apart := false }
def FnExactTransferGrantSaid : Prop := fnExactTransferGrantRow.holds Try.pinned (OpenSpec.ofChange fnExactTransferGrantSpec)

/-- ITS FALSE NEIGHBOUR: 'it returns false'. Refute it at one input. -/
def fnExactTransferGrantWrong : ChangeSpec := { name := "fnExactTransferGrant", fn := fun _ => fun
  | [d1, d2, d3] => { results := [.lit (.bool false)], args := [d1, d2, d3] }
  | _ => none }
def FnExactTransferGrantWrongFalsely : Prop := fnExactTransferGrantRow.holds Try.pinned (OpenSpec.ofChange fnExactTransferGrantWrong)

/- THE SECOND FORM. 'bulk': how many values and letters a reading holds, each counted each time it is reached (what is shared counts as often as it is met; a slice's spare places count too). A statement '..UptoSaid' is the law's where the arguments, and the package variables that the reading takes, are together of bulk at most 1048576: NARROWER than '..Said'. Prove '..Said' where nothing that the law and all that it calls make is longer than what came in: it says more and counts as full. Else prove '..UptoSaid'. A law counts once. -/
mutual
def uptoBulk {H : Type} : DataW H → Nat
  | .lit (.string bytes) => bytes.length + 1
  | .lit _ => 1
  | .nil => 1
  | .ptr d => uptoBulk d + 1
  | .slice elems spare => uptoBulkAll elems + uptoBulkAll spare + 1
  | .agg parts => uptoBulkAll parts + 1
  | .iface _ d => uptoBulk d + 1
  | .map entries => uptoBulkEntries entries + 1
  | .held _ => 1
def uptoBulkAll {H : Type} : List (DataW H) → Nat
  | [] => 0
  | d :: r => uptoBulk d + uptoBulkAll r
def uptoBulkEntries {H : Type} : List (Lit × DataW H) → Nat
  | [] => 0
  | x :: r => uptoBulkEntry x + uptoBulkEntries r
def uptoBulkEntry {H : Type} : Lit × DataW H → Nat
  | (.string bytes, d) => bytes.length + uptoBulk d + 1
  | (_, d) => uptoBulk d + 1
 end
def uptoSmall : (H : Type) → List (DataW H) → Bool := fun _ ds => decide (uptoBulkAll ds ≤ 1048576)
def OpenSpec.upto (s : _root_.Go.ChangeSpec) : _root_.Go.OpenSpec := { _root_.Go.OpenSpec.ofChange s with cond := some uptoSmall }

/-- 'laws.FnExactGrantArms', WHERE WHAT IT READS IS OF BULK AT MOST 1048576: true; the input reads as it did. -/
def fnExactGrantArmsUptoRow : OpenClaim := { program := "ytnpehlghbfmbaaa", sum := "52053639430c96938d50a4b2d6d5988ee61ed605000ea7320160fffae3e52780", func := "loop.example/g00884/laws.FnExactGrantArms", spec := "fnExactGrantArms", unfollowed := true, recurses := true, apart := false, narrowed := true }
def FnExactGrantArmsUptoSaid : Prop := fnExactGrantArmsUptoRow.holds Try.pinned (OpenSpec.upto fnExactGrantArmsSpec)

/-- 'laws.FnExactRevokeGrant', WHERE WHAT IT READS IS OF BULK AT MOST 1048576: true; the input reads as it did. -/
def fnExactRevokeGrantUptoRow : OpenClaim := { program := "ytnpehlghbfmbaaa", sum := "52053639430c96938d50a4b2d6d5988ee61ed605000ea7320160fffae3e52780", func := "loop.example/g00884/laws.FnExactRevokeGrant", spec := "fnExactRevokeGrant", unfollowed := true, recurses := true, apart := false, narrowed := true }
def FnExactRevokeGrantUptoSaid : Prop := fnExactRevokeGrantUptoRow.holds Try.pinned (OpenSpec.upto fnExactRevokeGrantSpec)

/-- 'laws.FnExactTransferGrant', WHERE WHAT IT READS IS OF BULK AT MOST 1048576: true; the input reads as it did. -/
def fnExactTransferGrantUptoRow : OpenClaim := { program := "ytnpehlghbfmbaaa", sum := "52053639430c96938d50a4b2d6d5988ee61ed605000ea7320160fffae3e52780", func := "loop.example/g00884/laws.FnExactTransferGrant", spec := "fnExactTransferGrant", unfollowed := true, recurses := true, apart := false, narrowed := true }
def FnExactTransferGrantUptoSaid : Prop := fnExactTransferGrantUptoRow.holds Try.pinned (OpenSpec.upto fnExactTransferGrantSpec)

end Rows
end Go.Proofs.Ytnpehlghbfmbaaa
