/- Contracts of the program's and the reference's parts of a division and cells of an ordinary. -/
import Derived.Test.YtlbggefccgpgaaaDoorLines
import Derived.Test.YtlbggefccgpgaaaDoorGeo
namespace Go.Proofs.YtlbggefccgpgaaaDoor
open Go.ChangeShapes Go.WideShapes Go.ChangeAt Go.RowKit

theorem ret_int {k : IntKind} {a b : Int} (h : a = b) : Ending.returned (.int k a) = .returned (.int k b) := by rw [h]
theorem ret_bool {a b : Bool} (h : a = b) : Ending.returned (.bool a) = .returned (.bool b) := by rw [h]
theorem l1Least_any (a b : Int) (w : World) :
    Calls Tryd.prog 20 #[.int .i64 a, .int .i64 b] w fun e w' => e = .returned (.int .i64 (min a b)) ∧ w = w' := by
  go_enter Tryd.func20, Tryd.ntmps20
  go_wp2
  all_goals go_ret
  all_goals exact ⟨ret_int (by omega), rfl⟩
theorem downF_bd (line x y : Int) (hx0 : 0 ≤ x) (hx1 : x ≤ 19) (hy0 : 0 ≤ y) (hy1 : y ≤ 23) : -2000 ≤ downF line x y ∧ downF line x y ≤ 2000 := by
  have hb := offF_bd line (x + y)
  unfold downF
  omega
end Go.Proofs.YtlbggefccgpgaaaDoor
