/- Contracts of the cells of ordinaries and of the reference's parts. -/
import Derived.Test.YtenaadmifppphaaGreatDoorParts
namespace Go.Proofs.YtenaadmifppphaaGreatDoor
open Go.ChangeShapes Go.WideShapes Go.ChangeAt Go.RowKit

set_option maxHeartbeats 2000000 in
theorem l9Part_any (d x y : Int) (hd0 : 0 ≤ d) (hd7 : d ≤ 7) (hx0 : 0 ≤ x) (hx1 : x ≤ 19) (hy0 : 0 ≤ y) (hy1 : y ≤ 23) (w : World) :
    Calls Tryz.prog 99 #[.int .i64 d, .int .i64 x, .int .i64 y] w fun e w' => e = .returned (.int .i64 (numI (!l9B d x y))) ∧ w = w' := by
  have hc : d = 0 ∨ d = 1 ∨ d = 2 ∨ d = 3 ∨ d = 4 ∨ d = 5 ∨ d = 6 ∨ d = 7 := by omega
  clear hd0 hd7
  rcases hc with rfl | rfl | rfl | rfl | rfl | rfl | rfl | rfl
  · rw [show l9B 0 x y = (true) from rfl]
    go_enter Tryz.func99, Tryz.ntmps99
    go_wp2_with (first | (go_at_call 79; refine (l9Down_any _ _ (by omega) (by omega) (by omega) (by omega) _).mono ?_; rintro e w' ⟨rfl, rfl⟩) | fail)
    all_goals go_ret
    all_goals refine ⟨ret_int ?_, rfl⟩
    all_goals first | rfl | (simp [numI, *]; done) | (simp_all [numI]; done) | (simp [numI]; omega)
  · rw [show l9B 1 x y = (decide (x < 10)) from rfl]
    go_enter Tryz.func99, Tryz.ntmps99
    go_wp2_with (first | (go_at_call 79; refine (l9Down_any _ _ (by omega) (by omega) (by omega) (by omega) _).mono ?_; rintro e w' ⟨rfl, rfl⟩) | fail)
    all_goals go_ret
    all_goals refine ⟨ret_int ?_, rfl⟩
    all_goals first | rfl | (simp [numI, *]; done) | (simp_all [numI]; done) | (simp [numI]; omega)
  · rw [show l9B 2 x y = (decide (y < 12)) from rfl]
    go_enter Tryz.func99, Tryz.ntmps99
    go_wp2_with (first | (go_at_call 79; refine (l9Down_any _ _ (by omega) (by omega) (by omega) (by omega) _).mono ?_; rintro e w' ⟨rfl, rfl⟩) | fail)
    all_goals go_ret
    all_goals refine ⟨ret_int ?_, rfl⟩
    all_goals first | rfl | (simp [numI, *]; done) | (simp_all [numI]; done) | (simp [numI]; omega)
  · rw [show l9B 3 x y = (decide (0 < 24 * (2 * x + 1) - 20 * (2 * y + 1))) from rfl]
    go_enter Tryz.func99, Tryz.ntmps99
    go_wp2_with (first | (go_at_call 79; refine (l9Down_any _ _ (by omega) (by omega) (by omega) (by omega) _).mono ?_; rintro e w' ⟨rfl, rfl⟩) | fail)
    all_goals go_ret
    all_goals refine ⟨ret_int ?_, rfl⟩
    all_goals first | rfl | (simp [numI, *]; done) | (simp_all [numI]; done) | (simp [numI]; omega)
  · rw [show l9B 4 x y = (decide (x < 10) == decide (y < 12)) from rfl]
    go_enter Tryz.func99, Tryz.ntmps99
    go_wp2_with (first | (go_at_call 79; refine (l9Down_any _ _ (by omega) (by omega) (by omega) (by omega) _).mono ?_; rintro e w' ⟨rfl, rfl⟩) | fail)
    all_goals go_ret
    all_goals refine ⟨ret_int ?_, rfl⟩
    all_goals first | rfl | (simp [numI, *]; done) | (simp_all [numI]; done) | (simp [numI]; omega)
  · rw [show l9B 5 x y = (decide (0 < 24 * (2 * x + 1) - 20 * (2 * y + 1)) == decide (0 < 24 * (2 * (19 - x) + 1) - 20 * (2 * y + 1))) from rfl]
    go_enter Tryz.func99, Tryz.ntmps99
    go_wp2_with (first | (go_at_call 79; refine (l9Down_any _ _ (by omega) (by omega) (by omega) (by omega) _).mono ?_; rintro e w' ⟨rfl, rfl⟩) | fail)
    all_goals go_ret
    all_goals refine ⟨ret_int ?_, rfl⟩
    all_goals first | rfl | (simp [numI, *]; done) | (simp_all [numI]; done) | (simp [numI]; omega)
  · rw [show l9B 6 x y = (6 * x / 20 % 2 == 0) from rfl]
    go_enter Tryz.func99, Tryz.ntmps99
    go_wp2_with (first | (go_at_call 79; refine (l9Down_any _ _ (by omega) (by omega) (by omega) (by omega) _).mono ?_; rintro e w' ⟨rfl, rfl⟩) | fail)
    all_goals go_ret
    all_goals refine ⟨ret_int ?_, rfl⟩
    all_goals first | rfl | (simp [numI, *]; done) | (simp_all [numI]; done) | (simp [numI]; omega)
  · rw [show l9B 7 x y = (y / 4 % 2 == 0) from rfl]
    go_enter Tryz.func99, Tryz.ntmps99
    go_wp2_with (first | (go_at_call 79; refine (l9Down_any _ _ (by omega) (by omega) (by omega) (by omega) _).mono ?_; rintro e w' ⟨rfl, rfl⟩) | fail)
    all_goals go_ret
    all_goals refine ⟨ret_int ?_, rfl⟩
    all_goals first | rfl | (simp [numI, *]; done) | (simp_all [numI]; done) | (simp [numI]; omega)
set_option maxHeartbeats 2000000 in
theorem l9Ord_any (d x y : Int) (hd0 : 0 ≤ d) (hd7 : d ≤ 7) (hx0 : -50 ≤ x) (hx1 : x ≤ 50) (hy0 : -50 ≤ y) (hy1 : y ≤ 50) (w : World) :
    Calls Tryz.prog 65 #[.int .i64 d, .int .i64 x, .int .i64 y] w fun e w' => e = .returned (.bool (l9O d x y)) ∧ w = w' := by
  have hc : d = 0 ∨ d = 1 ∨ d = 2 ∨ d = 3 ∨ d = 4 ∨ d = 5 ∨ d = 6 ∨ d = 7 := by omega
  clear hd0 hd7
  rcases hc with rfl | rfl | rfl | rfl | rfl | rfl | rfl | rfl
  · rw [show l9O 0 x y = (false) from rfl]
    go_enter Tryz.func65, Tryz.ntmps65
    go_wp2_with (first | (go_at_call 79; refine (l9Down_any _ _ (by omega) (by omega) (by omega) (by omega) _).mono ?_; rintro e w' ⟨rfl, rfl⟩) | (go_at_call 78; refine (l9Abs_any _ (by omega) (by omega) _).mono ?_; rintro e w' ⟨rfl, rfl⟩) | (go_at_call 52; refine (l1In_any _ _ _ _).mono ?_; rintro e w' ⟨rfl, rfl⟩) | fail)
    all_goals go_ret
    all_goals refine ⟨ret_bool ?_, rfl⟩
    all_goals (first | rfl | (simp; done) | (simp; omega) | (simp_all; done) | (rw [Bool.eq_iff_iff]; simp; omega))
  · rw [show l9O 1 x y = (decide (7 ≤ x ∧ x ≤ 12)) from rfl]
    go_enter Tryz.func65, Tryz.ntmps65
    go_wp2_with (first | (go_at_call 79; refine (l9Down_any _ _ (by omega) (by omega) (by omega) (by omega) _).mono ?_; rintro e w' ⟨rfl, rfl⟩) | (go_at_call 78; refine (l9Abs_any _ (by omega) (by omega) _).mono ?_; rintro e w' ⟨rfl, rfl⟩) | (go_at_call 52; refine (l1In_any _ _ _ _).mono ?_; rintro e w' ⟨rfl, rfl⟩) | fail)
    all_goals go_ret
    all_goals refine ⟨ret_bool ?_, rfl⟩
    all_goals (first | rfl | (simp; done) | (simp; omega) | (simp_all; done) | (rw [Bool.eq_iff_iff]; simp; omega))
  · rw [show l9O 2 x y = (decide (8 ≤ y ∧ y ≤ 15)) from rfl]
    go_enter Tryz.func65, Tryz.ntmps65
    go_wp2_with (first | (go_at_call 79; refine (l9Down_any _ _ (by omega) (by omega) (by omega) (by omega) _).mono ?_; rintro e w' ⟨rfl, rfl⟩) | (go_at_call 78; refine (l9Abs_any _ (by omega) (by omega) _).mono ?_; rintro e w' ⟨rfl, rfl⟩) | (go_at_call 52; refine (l1In_any _ _ _ _).mono ?_; rintro e w' ⟨rfl, rfl⟩) | fail)
    all_goals go_ret
    all_goals refine ⟨ret_bool ?_, rfl⟩
    all_goals (first | rfl | (simp; done) | (simp; omega) | (simp_all; done) | (rw [Bool.eq_iff_iff]; simp; omega))
  · rw [show l9O 3 x y = (decide (max (24 * (2 * x + 1) - 20 * (2 * y + 1)) (-(24 * (2 * x + 1) - 20 * (2 * y + 1))) ≤ 160)) from rfl]
    go_enter Tryz.func65, Tryz.ntmps65
    go_wp2_with (first | (go_at_call 79; refine (l9Down_any _ _ (by omega) (by omega) (by omega) (by omega) _).mono ?_; rintro e w' ⟨rfl, rfl⟩) | (go_at_call 78; refine (l9Abs_any _ (by omega) (by omega) _).mono ?_; rintro e w' ⟨rfl, rfl⟩) | (go_at_call 52; refine (l1In_any _ _ _ _).mono ?_; rintro e w' ⟨rfl, rfl⟩) | fail)
    all_goals go_ret
    all_goals refine ⟨ret_bool ?_, rfl⟩
    all_goals (first | rfl | (simp; done) | (simp; omega) | (simp_all; done) | (rw [Bool.eq_iff_iff]; simp; omega))
  · rw [show l9O 4 x y = (decide (11 ≤ 2 * y + 1 - max (2 * x - 19) (-(2 * x - 19)) ∧ 2 * y + 1 - max (2 * x - 19) (-(2 * x - 19)) ≤ 22)) from rfl]
    go_enter Tryz.func65, Tryz.ntmps65
    go_wp2_with (first | (go_at_call 79; refine (l9Down_any _ _ (by omega) (by omega) (by omega) (by omega) _).mono ?_; rintro e w' ⟨rfl, rfl⟩) | (go_at_call 78; refine (l9Abs_any _ (by omega) (by omega) _).mono ?_; rintro e w' ⟨rfl, rfl⟩) | (go_at_call 52; refine (l1In_any _ _ _ _).mono ?_; rintro e w' ⟨rfl, rfl⟩) | fail)
    all_goals go_ret
    all_goals refine ⟨ret_bool ?_, rfl⟩
    all_goals (first | rfl | (simp; done) | (simp; omega) | (simp_all; done) | (rw [Bool.eq_iff_iff]; simp; omega))
  · rw [show l9O 5 x y = (decide (8 ≤ x ∧ x ≤ 11) || decide (10 ≤ y ∧ y ≤ 13)) from rfl]
    go_enter Tryz.func65, Tryz.ntmps65
    go_wp2_with (first | (go_at_call 79; refine (l9Down_any _ _ (by omega) (by omega) (by omega) (by omega) _).mono ?_; rintro e w' ⟨rfl, rfl⟩) | (go_at_call 78; refine (l9Abs_any _ (by omega) (by omega) _).mono ?_; rintro e w' ⟨rfl, rfl⟩) | (go_at_call 52; refine (l1In_any _ _ _ _).mono ?_; rintro e w' ⟨rfl, rfl⟩) | fail)
    all_goals go_ret
    all_goals refine ⟨ret_bool ?_, rfl⟩
    all_goals (first | rfl | (simp; done) | (simp; omega) | (simp_all; done) | (rw [Bool.eq_iff_iff]; simp; omega))
  · rw [show l9O 6 x y = (decide (max (24 * (2 * x + 1) - 20 * (2 * y + 1)) (-(24 * (2 * x + 1) - 20 * (2 * y + 1))) ≤ 120) || decide (max (24 * (2 * (19 - x) + 1) - 20 * (2 * y + 1)) (-(24 * (2 * (19 - x) + 1) - 20 * (2 * y + 1))) ≤ 120)) from rfl]
    go_enter Tryz.func65, Tryz.ntmps65
    go_wp2_with (first | (go_at_call 79; refine (l9Down_any _ _ (by omega) (by omega) (by omega) (by omega) _).mono ?_; rintro e w' ⟨rfl, rfl⟩) | (go_at_call 78; refine (l9Abs_any _ (by omega) (by omega) _).mono ?_; rintro e w' ⟨rfl, rfl⟩) | (go_at_call 52; refine (l1In_any _ _ _ _).mono ?_; rintro e w' ⟨rfl, rfl⟩) | fail)
    all_goals go_ret
    all_goals refine ⟨ret_bool ?_, rfl⟩
    all_goals (first | rfl | (simp; done) | (simp; omega) | (simp_all; done) | (rw [Bool.eq_iff_iff]; simp; omega))
  · rw [show l9O 7 x y = (decide (y < 8)) from rfl]
    go_enter Tryz.func65, Tryz.ntmps65
    go_wp2_with (first | (go_at_call 79; refine (l9Down_any _ _ (by omega) (by omega) (by omega) (by omega) _).mono ?_; rintro e w' ⟨rfl, rfl⟩) | (go_at_call 78; refine (l9Abs_any _ (by omega) (by omega) _).mono ?_; rintro e w' ⟨rfl, rfl⟩) | (go_at_call 52; refine (l1In_any _ _ _ _).mono ?_; rintro e w' ⟨rfl, rfl⟩) | fail)
    all_goals go_ret
    all_goals refine ⟨ret_bool ?_, rfl⟩
    all_goals (first | rfl | (simp; done) | (simp; omega) | (simp_all; done) | (rw [Bool.eq_iff_iff]; simp; omega))
end Go.Proofs.YtenaadmifppphaaGreatDoor
