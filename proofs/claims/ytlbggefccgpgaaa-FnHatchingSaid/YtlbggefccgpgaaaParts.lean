/- Contracts of the program's and the reference's parts of a division and cells of an ordinary. -/
import Derived.Test.YtlbggefccgpgaaaLines
import Derived.Test.YtlbggefccgpgaaaGeo
namespace Go.Proofs.Ytlbggefccgpgaaa
open Go.ChangeShapes Go.WideShapes Go.ChangeAt Go.RowKit

theorem ret_int {k : IntKind} {a b : Int} (h : a = b) : Ending.returned (.int k a) = .returned (.int k b) := by rw [h]
theorem ret_bool {a b : Bool} (h : a = b) : Ending.returned (.bool a) = .returned (.bool b) := by rw [h]
theorem l1Most_any (a b : Int) (w : World) :
    Calls Try.prog 63 #[.int .i64 a, .int .i64 b] w fun e w' => e = .returned (.int .i64 (max a b)) ∧ w = w' := by
  go_enter Try.func63, Try.ntmps63
  go_wp2
  all_goals go_ret
  all_goals exact ⟨ret_int (by omega), rfl⟩
theorem l1Least_any (a b : Int) (w : World) :
    Calls Try.prog 67 #[.int .i64 a, .int .i64 b] w fun e w' => e = .returned (.int .i64 (min a b)) ∧ w = w' := by
  go_enter Try.func67, Try.ntmps67
  go_wp2
  all_goals go_ret
  all_goals exact ⟨ret_int (by omega), rfl⟩
theorem l9Abs_any (n : Int) (h0 : -1000000 ≤ n) (h1 : n ≤ 1000000) (w : World) :
    Calls Try.prog 60 #[.int .i64 n] w fun e w' => e = .returned (.int .i64 (max n (-n))) ∧ w = w' := by
  go_enter Try.func60, Try.ntmps60
  go_wp2_with (first | (go_at_call 63; refine (l1Most_any _ _ _).mono ?_; rintro e w' ⟨rfl, rfl⟩) | fail)
  go_ret
  exact ⟨rfl, rfl⟩
theorem l9Down_any (x y : Int) (hx0 : -100 ≤ x) (hx1 : x ≤ 100) (hy0 : -100 ≤ y) (hy1 : y ≤ 100) (w : World) :
    Calls Try.prog 61 #[.int .i64 x, .int .i64 y] w fun e w' => e = .returned (.int .i64 (24 * (2 * x + 1) - 20 * (2 * y + 1))) ∧ w = w' := by
  go_enter Try.func61, Try.ntmps61
  go_wp2
  go_ret
  exact ⟨rfl, rfl⟩
theorem l10Down_any (line x y : Int) (h0 : 0 ≤ line) (h4 : line ≤ 4) (hx0 : 0 ≤ x) (hx1 : x ≤ 19) (hy0 : 0 ≤ y) (hy1 : y ≤ 23) (w : World) :
    Calls Try.prog 64 #[.int .i64 line, .int .i64 x, .int .i64 y] w fun e w' => e = .returned (.int .i64 (downF line x y)) ∧ Below w.heap.size w w' := by
  have hb := offF_bd line (x + y)
  unfold downF
  have H := fun w => l10Offset_any line (x + y) h0 h4 (by omega) w
  generalize offF line (x + y) = o at *
  have H' := Lib.hid H
  clear H
  go_enter Try.func64, Try.ntmps64
  go_wp2_with (first | (go_at_call 65; refine (H'.out _).mono ?_; rintro e w1 ⟨rfl, hb1⟩) | (go_at_call 61; refine (l9Down_any _ _ (by omega) (by omega) (by omega) (by omega) _).mono ?_; rintro e w' ⟨rfl, rfl⟩) | fail)
  go_ret
  exact ⟨rfl, hb1⟩
theorem downF_bd (line x y : Int) (hx0 : 0 ≤ x) (hx1 : x ≤ 19) (hy0 : 0 ≤ y) (hy1 : y ≤ 23) : -2000 ≤ downF line x y ∧ downF line x y ≤ 2000 := by
  have hb := offF_bd line (x + y)
  unfold downF
  omega
end Go.Proofs.Ytlbggefccgpgaaa
