/- Contracts of the laws' own helpers on slices of numbers: equality, marks, what is held, copies, sizes. -/
import Derived.Test.YtenaadmifppphaaGreatDoorHead
import Derived.Test.YtenaadmifppphaaGreatDoorMem2
namespace Go.Proofs.YtenaadmifppphaaGreatDoor
open Go.ChangeShapes Go.WideShapes Go.ChangeAt Go.RowKit

theorem retB {a b : Bool} (h : a = b) : Ending.returned (.bool a) = .returned (.bool b) := by rw [h]
theorem retI {a b : Int} (h : a = b) : Ending.returned (.int .i64 a) = .returned (.int .i64 b) := by rw [h]
end Go.Proofs.YtenaadmifppphaaGreatDoor
