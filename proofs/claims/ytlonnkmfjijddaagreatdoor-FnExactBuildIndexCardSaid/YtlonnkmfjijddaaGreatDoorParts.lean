/- Contracts of the program's and the reference's parts of a division and cells of an ordinary. -/
import Derived.Test.YtlonnkmfjijddaaGreatDoorLines
import Derived.Test.YtlonnkmfjijddaaGreatDoorGeo
namespace Go.Proofs.YtlonnkmfjijddaaGreatDoor
open Go.ChangeShapes Go.WideShapes Go.ChangeAt Go.RowKit

theorem ret_int {k : IntKind} {a b : Int} (h : a = b) : Ending.returned (.int k a) = .returned (.int k b) := by rw [h]
theorem ret_bool {a b : Bool} (h : a = b) : Ending.returned (.bool a) = .returned (.bool b) := by rw [h]
theorem downF_bd (line x y : Int) (hx0 : 0 ≤ x) (hx1 : x ≤ 19) (hy0 : 0 ≤ y) (hy1 : y ≤ 23) : -2000 ≤ downF line x y ∧ downF line x y ≤ 2000 := by
  have hb := offF_bd line (x + y)
  unfold downF
  omega
end Go.Proofs.YtlonnkmfjijddaaGreatDoor
