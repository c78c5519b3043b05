/- Contracts of the program's and the reference's parts of a division and cells of an ordinary. -/
import Derived.Test.YtenaadmifppphaaGreatDoorLines
import Derived.Test.YtenaadmifppphaaGreatDoorGeo
namespace Go.Proofs.YtenaadmifppphaaGreatDoor
open Go.ChangeShapes Go.WideShapes Go.ChangeAt Go.RowKit

theorem ret_int {k : IntKind} {a b : Int} (h : a = b) : Ending.returned (.int k a) = .returned (.int k b) := by rw [h]
theorem ret_bool {a b : Bool} (h : a = b) : Ending.returned (.bool a) = .returned (.bool b) := by rw [h]
theorem l1Most_any (a b : Int) (w : World) :
    Calls Tryz.prog 90 #[.int .i64 a, .int .i64 b] w fun e w' => e = .returned (.int .i64 (max a b)) ∧ w = w' := by
  go_enter Tryz.func90, Tryz.ntmps90
  go_wp2
  all_goals go_ret
  all_goals exact ⟨ret_int (by omega), rfl⟩
theorem l1Least_any (a b : Int) (w : World) :
    Calls Tryz.prog 36 #[.int .i64 a, .int .i64 b] w fun e w' => e = .returned (.int .i64 (min a b)) ∧ w = w' := by
  go_enter Tryz.func36, Tryz.ntmps36
  go_wp2
  all_goals go_ret
  all_goals exact ⟨ret_int (by omega), rfl⟩
theorem l9Abs_any (n : Int) (h0 : -1000000 ≤ n) (h1 : n ≤ 1000000) (w : World) :
    Calls Tryz.prog 78 #[.int .i64 n] w fun e w' => e = .returned (.int .i64 (max n (-n))) ∧ w = w' := by
  go_enter Tryz.func78, Tryz.ntmps78
  go_wp2_with (first | (go_at_call 90; refine (l1Most_any _ _ _).mono ?_; rintro e w' ⟨rfl, rfl⟩) | fail)
  go_ret
  exact ⟨rfl, rfl⟩
theorem l9Down_any (x y : Int) (hx0 : -100 ≤ x) (hx1 : x ≤ 100) (hy0 : -100 ≤ y) (hy1 : y ≤ 100) (w : World) :
    Calls Tryz.prog 79 #[.int .i64 x, .int .i64 y] w fun e w' => e = .returned (.int .i64 (24 * (2 * x + 1) - 20 * (2 * y + 1))) ∧ w = w' := by
  go_enter Tryz.func79, Tryz.ntmps79
  go_wp2
  go_ret
  exact ⟨rfl, rfl⟩
theorem l10Down_any (line x y : Int) (h0 : 0 ≤ line) (h4 : line ≤ 4) (hx0 : 0 ≤ x) (hx1 : x ≤ 19) (hy0 : 0 ≤ y) (hy1 : y ≤ 23) (w : World) :
    Calls Tryz.prog 97 #[.int .i64 line, .int .i64 x, .int .i64 y] w fun e w' => e = .returned (.int .i64 (downF line x y)) ∧ Below w.heap.size w w' := by
  have hb := offF_bd line (x + y)
  unfold downF
  have H := fun w => l10Offset_any line (x + y) h0 h4 (by omega) w
  generalize offF line (x + y) = o at *
  have H' := Lib.hid H
  clear H
  go_enter Tryz.func97, Tryz.ntmps97
  go_wp2_with (first | (go_at_call 98; refine (H'.out _).mono ?_; rintro e w1 ⟨rfl, hb1⟩) | (go_at_call 79; refine (l9Down_any _ _ (by omega) (by omega) (by omega) (by omega) _).mono ?_; rintro e w' ⟨rfl, rfl⟩) | fail)
  go_ret
  exact ⟨rfl, hb1⟩
theorem downF_bd (line x y : Int) (hx0 : 0 ≤ x) (hx1 : x ≤ 19) (hy0 : 0 ≤ y) (hy1 : y ≤ 23) : -2000 ≤ downF line x y ∧ downF line x y ≤ 2000 := by
  have hb := offF_bd line (x + y)
  unfold downF
  omega
end Go.Proofs.YtenaadmifppphaaGreatDoor
