/- Contracts of the laws' own helpers on regions. -/
import Derived.Test.YtenaadmifppphaaGreatDoorInts
namespace Go.Proofs.YtenaadmifppphaaGreatDoor
open Go.ChangeShapes Go.WideShapes Go.ChangeAt Go.RowKit

def ToRegPost (w : World) (T : TypeId) (zs : List Int) (e : Ending) (w' : World) : Prop :=
  ∃ v, e = .returned (.agg #[v]) ∧ OwnI w' w.heap.size T v zs ∧ Below w.heap.size w w'
end Go.Proofs.YtenaadmifppphaaGreatDoor
