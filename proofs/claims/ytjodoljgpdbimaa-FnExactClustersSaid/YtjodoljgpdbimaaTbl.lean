/- Contracts: DifferenceTable. -/
import Derived.Test.YtjodoljgpdbimaaNear
import Derived.Test.YtjodoljgpdbimaaGGLaw
namespace Go.Proofs.Ytjodoljgpdbimaa
open Go.ChangeShapes Go.WideShapes Go.ChangeAt Go.RowKit
set_option linter.unusedVariables false
set_option linter.unusedSimpArgs false
def rowD (rows : List ArmsD) (a : ArmsD) : List Int := rows.map (df a)
def tblD (rows part : List ArmsD) : List (List Int) := part.map (rowD rows)
theorem rowD_snoc {rows : List ArmsD} {a b : ArmsD} {k : Nat} (h : rows[k]? = some b) : rowD (rows.take (k + 1)) a = rowD (rows.take k) a ++ [df a b] := by
  rw [List.take_add_one, h]
  simp [rowD]
theorem tblD_snoc {rows : List ArmsD} {a : ArmsD} {k : Nat} (h : rows[k]? = some a) : tblD rows (rows.take (k + 1)) = tblD rows (rows.take k) ++ [rowD rows a] := by
  rw [List.take_add_one, h]
  simp [tblD]
theorem rangeAt_grown {w w' : World} {b o : Nat} {cs : List Value} {row : Option Nat} (h : w.rangeAt b o cs) (hg : w.grownBy w' row) (hne : row ≠ some b) : w'.rangeAt b o cs := fun j v hv => by
  have h1 := h j v hv
  have hb := World.block_lt_of_cell? w _ h1
  rw [World.cell?_of_block (a := ⟨b, o + j, none⟩) (hg.block b hb (fun e => hne e.symm))]
  exact h1
theorem OwnI.noneT (w : World) (B g : Nat) (hg : g = w.heap.size) (hB : B ≤ g) : OwnI (w.alloc (.cells #[] 3)) B 3 (.slice (some ⟨g, 0, none⟩) 0 0) [] :=
  OwnI.blk (zs := []) (heap_hit _ _ _ hg) hB (by simp [maxLen])
end Go.Proofs.Ytjodoljgpdbimaa
