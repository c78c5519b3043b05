/- Contracts of the lines: offsets, periods, turns. -/
import Derived.Test.YtlbggefccgpgaaaDoorHead
namespace Go.Proofs.YtlbggefccgpgaaaDoor
open Go.ChangeShapes Go.WideShapes Go.ChangeAt Go.RowKit

/-- A fresh slice that is a block of its own, whole. -/
def FreshInts (w : World) (xs : List Int) (e : Ending) (w' : World) : Prop :=
  ∃ g, e = .returned (.slice (some ⟨g, 0, none⟩) xs.length xs.length) ∧ w.heap.size ≤ g ∧ w'.heap[g]? = some (.cells (ints xs) 3 (0, 0)) ∧ Below w.heap.size w w'

end Go.Proofs.YtlbggefccgpgaaaDoor
