/-
  No cell of these rows narrows 'for every input' (looked for: loops, veiled, ifaces, maps, wideKeys, modest, calm, conditions, laid).
  DERIVED. THE GIVEN ROWS OF THIS SEAT. 9 by the template 'for every input the law returns true; each argument reads behind the call as it read before'; 0 by the template 'total and deterministic' (their statements: YtgnfgkkepninpaaTotals.lean).
  GIVEN WITH THE SEED: the statements are not yours to turn. If you find one false, say at which input.
  Laid BY PROGRAM, IN A SANDBOX (cutbox-rows.mjs): the forced cells as the released guide's own fill.sh prints them over the translation 95dfd517f965bc90… (all of the seat's roots in one cut). By AI agents, Wed Nov 11 2026. No macro, syntax, notation, axiom, sorry.
-/
import Derived.Test.YtgnfgkkepninpaaChecked
import GoSem.Claim
import GoSem.ClaimJoined
import GoSem.ClaimMapViews
import Derived.JoinedTies
import Derived.KernelRfl
namespace Go.Proofs.Ytgnfgkkepninpaa
/- THE CELL 'sum', in the pinned program and in every row, IS THE sha256 OF THE DUMP (.gsa) THAT YtgnfgkkepninpaaProg.lean LOADS. Nothing in Lean hashes anything: it is a label: what it is worth is what the hold of that sum in a sandbox is worth. -/
noncomputable def Try.pinned : Pinned := { name := "ytgnfgkkepninpaa", sum := "95dfd517f965bc90a3f95e4e9d6eb463d7fd5599b20e2cc9d92c7b9bd2fbe443", checked := Try.checked }
namespace Rows
def none {H : Type} : Left H := { results := [], args := [] }

/-- 'laws.FnExactIsValidBox': WHATEVER THE INPUT: true; the input reads as it did. -/
def fnExactIsValidBoxSpec : ChangeSpec := { name := "fnExactIsValidBox", fn := fun _ => fun
  | [d] => { results := [.lit (.bool true)], args := [d] }
  | _ => none }
def fnExactIsValidBoxRow : OpenClaim := { program := "ytgnfgkkepninpaa", sum := "95dfd517f965bc90a3f95e4e9d6eb463d7fd5599b20e2cc9d92c7b9bd2fbe443", func := "loop.example/g00884/laws.FnExactIsValidBox", spec := "fnExactIsValidBox", unfollowed := true, recurses := true, apart := false }
def FnExactIsValidBoxSaid : Prop := fnExactIsValidBoxRow.holds Try.pinned (OpenSpec.ofChange fnExactIsValidBoxSpec)

/-- ITS FALSE NEIGHBOUR: 'it returns false'. Refute it at one input. -/
def fnExactIsValidBoxWrong : ChangeSpec := { name := "fnExactIsValidBox", fn := fun _ => fun
  | [d] => { results := [.lit (.bool false)], args := [d] }
  | _ => none }
def FnExactIsValidBoxWrongFalsely : Prop := fnExactIsValidBoxRow.holds Try.pinned (OpenSpec.ofChange fnExactIsValidBoxWrong)

/-- 'laws.FnExactShapeCell': WHATEVER THE INPUT: true; the input reads as it did. -/
def fnExactShapeCellSpec : ChangeSpec := { name := "fnExactShapeCell", fn := fun _ => fun
  | [d1, d2, d3, d4, d5] => { results := [.lit (.bool true)], args := [d1, d2, d3, d4, d5] }
  | _ => none }
def fnExactShapeCellRow : OpenClaim := { program := "ytgnfgkkepninpaa", sum := "95dfd517f965bc90a3f95e4e9d6eb463d7fd5599b20e2cc9d92c7b9bd2fbe443", func := "loop.example/g00884/laws.FnExactShapeCell", spec := "fnExactShapeCell", apart := false }
def FnExactShapeCellSaid : Prop := fnExactShapeCellRow.holds Try.pinned (OpenSpec.ofChange fnExactShapeCellSpec)

/-- ITS FALSE NEIGHBOUR: 'it returns false'. Refute it at one input. -/
def fnExactShapeCellWrong : ChangeSpec := { name := "fnExactShapeCell", fn := fun _ => fun
  | [d1, d2, d3, d4, d5] => { results := [.lit (.bool false)], args := [d1, d2, d3, d4, d5] }
  | _ => none }
def FnExactShapeCellWrongFalsely : Prop := fnExactShapeCellRow.holds Try.pinned (OpenSpec.ofChange fnExactShapeCellWrong)

/-- 'laws.FnExactShapeCells': WHATEVER THE INPUT: true; the input reads as it did. -/
def fnExactShapeCellsSpec : ChangeSpec := { name := "fnExactShapeCells", fn := fun _ => fun
  | [d1, d2, d3] => { results := [.lit (.bool true)], args := [d1, d2, d3] }
  | _ => none }
def fnExactShapeCellsRow : OpenClaim := { program := "ytgnfgkkepninpaa", sum := "95dfd517f965bc90a3f95e4e9d6eb463d7fd5599b20e2cc9d92c7b9bd2fbe443", func := "loop.example/g00884/laws.FnExactShapeCells", spec := "fnExactShapeCells", apart := false }
def FnExactShapeCellsSaid : Prop := fnExactShapeCellsRow.holds Try.pinned (OpenSpec.ofChange fnExactShapeCellsSpec)

/-- ITS FALSE NEIGHBOUR: 'it returns false'. Refute it at one input. -/
def fnExactShapeCellsWrong : ChangeSpec := { name := "fnExactShapeCells", fn := fun _ => fun
  | [d1, d2, d3] => { results := [.lit (.bool false)], args := [d1, d2, d3] }
  | _ => none }
def FnExactShapeCellsWrongFalsely : Prop := fnExactShapeCellsRow.holds Try.pinned (OpenSpec.ofChange fnExactShapeCellsWrong)

/-- 'laws.FnExactIsValidPicture': WHATEVER THE INPUT: true; the input reads as it did. -/
def fnExactIsValidPictureSpec : ChangeSpec := { name := "fnExactIsValidPicture", fn := fun _ => fun
  | [d] => { results := [.lit (.bool true)], args := [d] }
  | _ => none }
def fnExactIsValidPictureRow : OpenClaim := { program := "ytgnfgkkepninpaa", sum := "95dfd517f965bc90a3f95e4e9d6eb463d7fd5599b20e2cc9d92c7b9bd2fbe443", func := "loop.example/g00884/laws.FnExactIsValidPicture", spec := "fnExactIsValidPicture", apart := false }
def FnExactIsValidPictureSaid : Prop := fnExactIsValidPictureRow.holds Try.pinned (OpenSpec.ofChange fnExactIsValidPictureSpec)

/-- ITS FALSE NEIGHBOUR: 'it returns false'. Refute it at one input. -/
def fnExactIsValidPictureWrong : ChangeSpec := { name := "fnExactIsValidPicture", fn := fun _ => fun
  | [d] => { results := [.lit (.bool false)], args := [d] }
  | _ => none }
def FnExactIsValidPictureWrongFalsely : Prop := fnExactIsValidPictureRow.holds Try.pinned (OpenSpec.ofChange fnExactIsValidPictureWrong)

/-- 'laws.FnExactChangedCells': WHATEVER THE INPUT: true; the input reads as it did. -/
def fnExactChangedCellsSpec : ChangeSpec := { name := "fnExactChangedCells", fn := fun _ => fun
  | [d1, d2] => { results := [.lit (.bool true)], args := [d1, d2] }
  | _ => none }
def fnExactChangedCellsRow : OpenClaim := { program := "ytgnfgkkepninpaa", sum := "95dfd517f965bc90a3f95e4e9d6eb463d7fd5599b20e2cc9d92c7b9bd2fbe443", func := "loop.example/g00884/laws.FnExactChangedCells", spec := "fnExactChangedCells", unfollowed := true, recurses := true, apart := false }
def FnExactChangedCellsSaid : Prop := fnExactChangedCellsRow.holds Try.pinned (OpenSpec.ofChange fnExactChangedCellsSpec)

/-- ITS FALSE NEIGHBOUR: 'it returns false'. Refute it at one input. -/
def fnExactChangedCellsWrong : ChangeSpec := { name := "fnExactChangedCells", fn := fun _ => fun
  | [d1, d2] => { results := [.lit (.bool false)], args := [d1, d2] }
  | _ => none }
def FnExactChangedCellsWrongFalsely : Prop := fnExactChangedCellsRow.holds Try.pinned (OpenSpec.ofChange fnExactChangedCellsWrong)

/-- 'laws.FnExactShareOf': WHATEVER THE INPUT: true; the input reads as it did. -/
def fnExactShareOfSpec : ChangeSpec := { name := "fnExactShareOf", fn := fun _ => fun
  | [d1, d2] => { results := [.lit (.bool true)], args := [d1, d2] }
  | _ => none }
def fnExactShareOfRow : OpenClaim := { program := "ytgnfgkkepninpaa", sum := "95dfd517f965bc90a3f95e4e9d6eb463d7fd5599b20e2cc9d92c7b9bd2fbe443", func := "loop.example/g00884/laws.FnExactShareOf", spec := "fnExactShareOf", unfollowed := true, recurses := true, apart := false }
def FnExactShareOfSaid : Prop := fnExactShareOfRow.holds Try.pinned (OpenSpec.ofChange fnExactShareOfSpec)

/-- ITS FALSE NEIGHBOUR: 'it returns false'. Refute it at one input. -/
def fnExactShareOfWrong : ChangeSpec := { name := "fnExactShareOf", fn := fun _ => fun
  | [d1, d2] => { results := [.lit (.bool false)], args := [d1, d2] }
  | _ => none }
def FnExactShareOfWrongFalsely : Prop := fnExactShareOfRow.holds Try.pinned (OpenSpec.ofChange fnExactShareOfWrong)

/-- 'laws.FnExactHatchText': WHATEVER THE INPUT: true; the input reads as it did. -/
def fnExactHatchTextSpec : ChangeSpec := { name := "fnExactHatchText", fn := fun _ => fun
  | [d] => { results := [.lit (.bool true)], args := [d] }
  | _ => none }
def fnExactHatchTextRow : OpenClaim := { program := "ytgnfgkkepninpaa", sum := "95dfd517f965bc90a3f95e4e9d6eb463d7fd5599b20e2cc9d92c7b9bd2fbe443", func := "loop.example/g00884/laws.FnExactHatchText", spec := "fnExactHatchText", apart := false }
def FnExactHatchTextSaid : Prop := fnExactHatchTextRow.holds Try.pinned (OpenSpec.ofChange fnExactHatchTextSpec)

/-- ITS FALSE NEIGHBOUR: 'it returns false'. Refute it at one input. -/
def fnExactHatchTextWrong : ChangeSpec := { name := "fnExactHatchText", fn := fun _ => fun
  | [d] => { results := [.lit (.bool false)], args := [d] }
  | _ => none }
def FnExactHatchTextWrongFalsely : Prop := fnExactHatchTextRow.holds Try.pinned (OpenSpec.ofChange fnExactHatchTextWrong)

/-- 'laws.FnExactLetterText': WHATEVER THE INPUT: true; the input reads as it did. -/
def fnExactLetterTextSpec : ChangeSpec := { name := "fnExactLetterText", fn := fun _ => fun
  | [d] => { results := [.lit (.bool true)], args := [d] }
  | _ => none }
def fnExactLetterTextRow : OpenClaim := { program := "ytgnfgkkepninpaa", sum := "95dfd517f965bc90a3f95e4e9d6eb463d7fd5599b20e2cc9d92c7b9bd2fbe443", func := "loop.example/g00884/laws.FnExactLetterText", spec := "fnExactLetterText", apart := false }
def FnExactLetterTextSaid : Prop := fnExactLetterTextRow.holds Try.pinned (OpenSpec.ofChange fnExactLetterTextSpec)

/-- ITS FALSE NEIGHBOUR: 'it returns false'. Refute it at one input. -/
def fnExactLetterTextWrong : ChangeSpec := { name := "fnExactLetterText", fn := fun _ => fun
  | [d] => { results := [.lit (.bool false)], args := [d] }
  | _ => none }
def FnExactLetterTextWrongFalsely : Prop := fnExactLetterTextRow.holds Try.pinned (OpenSpec.ofChange fnExactLetterTextWrong)

/-- 'laws.FnHatching': WHATEVER THE INPUT: true; the input reads as it did. -/
def fnHatchingSpec : ChangeSpec := { name := "fnHatching", fn := fun _ => fun
  | [d] => { results := [.lit (.bool true)], args := [d] }
  | _ => none }
def fnHatchingRow : OpenClaim := { program := "ytgnfgkkepninpaa", sum := "95dfd517f965bc90a3f95e4e9d6eb463d7fd5599b20e2cc9d92c7b9bd2fbe443", func := "loop.example/g00884/laws.FnHatching", spec := "fnHatching", unfollowed := true, recurses := true, apart := false }
def FnHatchingSaid : Prop := fnHatchingRow.holds Try.pinned (OpenSpec.ofChange fnHatchingSpec)

/-- ITS FALSE NEIGHBOUR: 'it returns false'. Refute it at one input. -/
def fnHatchingWrong : ChangeSpec := { name := "fnHatching", fn := fun _ => fun
  | [d] => { results := [.lit (.bool false)], args := [d] }
  | _ => none }
def FnHatchingWrongFalsely : Prop := fnHatchingRow.holds Try.pinned (OpenSpec.ofChange fnHatchingWrong)

/- THE SECOND FORM. 'bulk': how many values and letters a reading holds, each counted each time it is reached (what is shared counts as often as it is met; a slice's spare places count too). A statement '..UptoSaid' is the law's where the arguments, and the package variables that the reading takes, are together of bulk at most 1048576: NARROWER than '..Said'. Prove '..Said' where nothing that the law and all that it calls make is longer than what came in: it says more and counts as full. Else prove '..UptoSaid'. A law counts once. -/
mutual
def uptoBulk {H : Type} : DataW H → Nat
  | .lit (.string bytes) => bytes.length + 1
  | .lit _ => 1
  | .nil => 1
  | .ptr d => uptoBulk d + 1
  | .slice elems spare => uptoBulkAll elems + uptoBulkAll spare + 1
  | .agg parts => uptoBulkAll parts + 1
  | .iface _ d => uptoBulk d + 1
  | .map entries => uptoBulkEntries entries + 1
  | .held _ => 1
def uptoBulkAll {H : Type} : List (DataW H) → Nat
  | [] => 0
  | d :: r => uptoBulk d + uptoBulkAll r
def uptoBulkEntries {H : Type} : List (Lit × DataW H) → Nat
  | [] => 0
  | x :: r => uptoBulkEntry x + uptoBulkEntries r
def uptoBulkEntry {H : Type} : Lit × DataW H → Nat
  | (.string bytes, d) => bytes.length + uptoBulk d + 1
  | (_, d) => uptoBulk d + 1
 end
def uptoSmall : (H : Type) → List (DataW H) → Bool := fun _ ds => decide (uptoBulkAll ds ≤ 1048576)
def OpenSpec.upto (s : _root_.Go.ChangeSpec) : _root_.Go.OpenSpec := { _root_.Go.OpenSpec.ofChange s with cond := some uptoSmall }

/-- 'laws.FnExactIsValidBox', WHERE WHAT IT READS IS OF BULK AT MOST 1048576: true; the input reads as it did. -/
def fnExactIsValidBoxUptoRow : OpenClaim := { program := "ytgnfgkkepninpaa", sum := "95dfd517f965bc90a3f95e4e9d6eb463d7fd5599b20e2cc9d92c7b9bd2fbe443", func := "loop.example/g00884/laws.FnExactIsValidBox", spec := "fnExactIsValidBox", unfollowed := true, recurses := true, apart := false, narrowed := true }
def FnExactIsValidBoxUptoSaid : Prop := fnExactIsValidBoxUptoRow.holds Try.pinned (OpenSpec.upto fnExactIsValidBoxSpec)

/-- 'laws.FnExactShapeCell', WHERE WHAT IT READS IS OF BULK AT MOST 1048576: true; the input reads as it did. -/
def fnExactShapeCellUptoRow : OpenClaim := { program := "ytgnfgkkepninpaa", sum := "95dfd517f965bc90a3f95e4e9d6eb463d7fd5599b20e2cc9d92c7b9bd2fbe443", func := "loop.example/g00884/laws.FnExactShapeCell", spec := "fnExactShapeCell", apart := false, narrowed := true }
def FnExactShapeCellUptoSaid : Prop := fnExactShapeCellUptoRow.holds Try.pinned (OpenSpec.upto fnExactShapeCellSpec)

/-- 'laws.FnExactShapeCells', WHERE WHAT IT READS IS OF BULK AT MOST 1048576: true; the input reads as it did. -/
def fnExactShapeCellsUptoRow : OpenClaim := { program := "ytgnfgkkepninpaa", sum := "95dfd517f965bc90a3f95e4e9d6eb463d7fd5599b20e2cc9d92c7b9bd2fbe443", func := "loop.example/g00884/laws.FnExactShapeCells", spec := "fnExactShapeCells", apart := false, narrowed := true }
def FnExactShapeCellsUptoSaid : Prop := fnExactShapeCellsUptoRow.holds Try.pinned (OpenSpec.upto fnExactShapeCellsSpec)

/-- 'laws.FnExactIsValidPicture', WHERE WHAT IT READS IS OF BULK AT MOST 1048576: true; the input reads as it did. -/
def fnExactIsValidPictureUptoRow : OpenClaim := { program := "ytgnfgkkepninpaa", sum := "95dfd517f965bc90a3f95e4e9d6eb463d7fd5599b20e2cc9d92c7b9bd2fbe443", func := "loop.example/g00884/laws.FnExactIsValidPicture", spec := "fnExactIsValidPicture", apart := false, narrowed := true }
def FnExactIsValidPictureUptoSaid : Prop := fnExactIsValidPictureUptoRow.holds Try.pinned (OpenSpec.upto fnExactIsValidPictureSpec)

/-- 'laws.FnExactChangedCells', WHERE WHAT IT READS IS OF BULK AT MOST 1048576: true; the input reads as it did. -/
def fnExactChangedCellsUptoRow : OpenClaim := { program := "ytgnfgkkepninpaa", sum := "95dfd517f965bc90a3f95e4e9d6eb463d7fd5599b20e2cc9d92c7b9bd2fbe443", func := "loop.example/g00884/laws.FnExactChangedCells", spec := "fnExactChangedCells", unfollowed := true, recurses := true, apart := false, narrowed := true }
def FnExactChangedCellsUptoSaid : Prop := fnExactChangedCellsUptoRow.holds Try.pinned (OpenSpec.upto fnExactChangedCellsSpec)

/-- 'laws.FnExactShareOf', WHERE WHAT IT READS IS OF BULK AT MOST 1048576: true; the input reads as it did. -/
def fnExactShareOfUptoRow : OpenClaim := { program := "ytgnfgkkepninpaa", sum := "95dfd517f965bc90a3f95e4e9d6eb463d7fd5599b20e2cc9d92c7b9bd2fbe443", func := "loop.example/g00884/laws.FnExactShareOf", spec := "fnExactShareOf", unfollowed := true, recurses := true, apart := false, narrowed := true }
def FnExactShareOfUptoSaid : Prop := fnExactShareOfUptoRow.holds Try.pinned (OpenSpec.upto fnExactShareOfSpec)

/-- 'laws.FnExactHatchText', WHERE WHAT IT READS IS OF BULK AT MOST 1048576: true; the input reads as it did. -/
def fnExactHatchTextUptoRow : OpenClaim := { program := "ytgnfgkkepninpaa", sum := "95dfd517f965bc90a3f95e4e9d6eb463d7fd5599b20e2cc9d92c7b9bd2fbe443", func := "loop.example/g00884/laws.FnExactHatchText", spec := "fnExactHatchText", apart := false, narrowed := true }
def FnExactHatchTextUptoSaid : Prop := fnExactHatchTextUptoRow.holds Try.pinned (OpenSpec.upto fnExactHatchTextSpec)

/-- 'laws.FnExactLetterText', WHERE WHAT IT READS IS OF BULK AT MOST 1048576: true; the input reads as it did. -/
def fnExactLetterTextUptoRow : OpenClaim := { program := "ytgnfgkkepninpaa", sum := "95dfd517f965bc90a3f95e4e9d6eb463d7fd5599b20e2cc9d92c7b9bd2fbe443", func := "loop.example/g00884/laws.FnExactLetterText", spec := "fnExactLetterText", apart := false, narrowed := true }
def FnExactLetterTextUptoSaid : Prop := fnExactLetterTextUptoRow.holds Try.pinned (OpenSpec.upto fnExactLetterTextSpec)

/-- 'laws.FnHatching', WHERE WHAT IT READS IS OF BULK AT MOST 1048576: true; the input reads as it did. -/
def fnHatchingUptoRow : OpenClaim := { program := "ytgnfgkkepninpaa", sum := "95dfd517f965bc90a3f95e4e9d6eb463d7fd5599b20e2cc9d92c7b9bd2fbe443", func := "loop.example/g00884/laws.FnHatching", spec := "fnHatching", unfollowed := true, recurses := true, apart := false, narrowed := true }
def FnHatchingUptoSaid : Prop := fnHatchingUptoRow.holds Try.pinned (OpenSpec.upto fnHatchingSpec)

end Rows
end Go.Proofs.Ytgnfgkkepninpaa
