/- Contracts of the program's and the reference's parts of a division and cells of an ordinary. -/
import Derived.Test.YtfmigkiliggdhaaLines
import Derived.Test.YtfmigkiliggdhaaGeo
namespace Go.Proofs.Ytfmigkiliggdhaa
open Go.ChangeShapes Go.WideShapes Go.ChangeAt Go.RowKit

theorem ret_int {k : IntKind} {a b : Int} (h : a = b) : Ending.returned (.int k a) = .returned (.int k b) := by rw [h]
theorem ret_bool {a b : Bool} (h : a = b) : Ending.returned (.bool a) = .returned (.bool b) := by rw [h]
theorem absOf_any (n : Int) (h0 : -1000000 ≤ n) (h1 : n ≤ 1000000) (w : World) :
    Calls Try.prog 89 #[.int .i64 n] w fun e w' => e = .returned (.int .i64 (max n (-n))) ∧ w = w' := by
  go_enter Try.func89, Try.ntmps89
  go_wp2
  all_goals go_ret
  all_goals exact ⟨ret_int (by omega), rfl⟩
theorem l1Most_any (a b : Int) (w : World) :
    Calls Try.prog 87 #[.int .i64 a, .int .i64 b] w fun e w' => e = .returned (.int .i64 (max a b)) ∧ w = w' := by
  go_enter Try.func87, Try.ntmps87
  go_wp2
  all_goals go_ret
  all_goals exact ⟨ret_int (by omega), rfl⟩
theorem l1Least_any (a b : Int) (w : World) :
    Calls Try.prog 88 #[.int .i64 a, .int .i64 b] w fun e w' => e = .returned (.int .i64 (min a b)) ∧ w = w' := by
  go_enter Try.func88, Try.ntmps88
  go_wp2
  all_goals go_ret
  all_goals exact ⟨ret_int (by omega), rfl⟩
theorem l9Abs_any (n : Int) (h0 : -1000000 ≤ n) (h1 : n ≤ 1000000) (w : World) :
    Calls Try.prog 81 #[.int .i64 n] w fun e w' => e = .returned (.int .i64 (max n (-n))) ∧ w = w' := by
  go_enter Try.func81, Try.ntmps81
  go_wp2_with (first | (go_at_call 87; refine (l1Most_any _ _ _).mono ?_; rintro e w' ⟨rfl, rfl⟩) | fail)
  go_ret
  exact ⟨rfl, rfl⟩
theorem falling_any (line x y : Int) (h0 : 0 ≤ line) (h4 : line ≤ 4) (hx0 : 0 ≤ x) (hx1 : x ≤ 19) (hy0 : 0 ≤ y) (hy1 : y ≤ 23) (w : World) :
    Calls Try.prog 77 #[.int .i64 line, .int .i64 x, .int .i64 y] w fun e w' => e = .returned (.int .i64 (downF line x y)) ∧ Below w.heap.size w w' := by
  have hb := offF_bd line (x + y)
  unfold downF
  have H := fun w => offset_any line (x + y) h0 h4 (by omega) w
  generalize offF line (x + y) = o at *
  have H' := Lib.hid H
  clear H
  go_enter Try.func77, Try.ntmps77
  go_wp2_with (first | (go_at_call 59; refine (H'.out _).mono ?_; rintro e w1 ⟨rfl, hb1⟩) | fail)
  go_ret
  exact ⟨rfl, hb1⟩
theorem rising_any (line x y : Int) (h0 : 0 ≤ line) (h4 : line ≤ 4) (hx0 : 0 ≤ x) (hx1 : x ≤ 19) (hy0 : 0 ≤ y) (hy1 : y ≤ 23) (w : World) :
    Calls Try.prog 78 #[.int .i64 line, .int .i64 x, .int .i64 y] w fun e w' => e = .returned (.int .i64 (downF line (19 - x) y)) ∧ Below w.heap.size w w' := by
  have hb := offF_bd line (19 - x + y)
  unfold downF
  have H := fun w => offset_any line (19 - x + y) h0 h4 (by omega) w
  generalize offF line (19 - x + y) = o at *
  have H' := Lib.hid H
  clear H
  go_enter Try.func78, Try.ntmps78
  go_wp2_with (first | (go_at_call 59; refine (H'.out _).mono ?_; rintro e w1 ⟨rfl, hb1⟩) | fail)
  go_ret
  exact ⟨ret_int (by omega), hb1⟩
theorem l9Down_any (x y : Int) (hx0 : -100 ≤ x) (hx1 : x ≤ 100) (hy0 : -100 ≤ y) (hy1 : y ≤ 100) (w : World) :
    Calls Try.prog 79 #[.int .i64 x, .int .i64 y] w fun e w' => e = .returned (.int .i64 (24 * (2 * x + 1) - 20 * (2 * y + 1))) ∧ w = w' := by
  go_enter Try.func79, Try.ntmps79
  go_wp2
  go_ret
  exact ⟨rfl, rfl⟩
theorem l10Down_any (line x y : Int) (h0 : 0 ≤ line) (h4 : line ≤ 4) (hx0 : 0 ≤ x) (hx1 : x ≤ 19) (hy0 : 0 ≤ y) (hy1 : y ≤ 23) (w : World) :
    Calls Try.prog 86 #[.int .i64 line, .int .i64 x, .int .i64 y] w fun e w' => e = .returned (.int .i64 (downF line x y)) ∧ Below w.heap.size w w' := by
  have hb := offF_bd line (x + y)
  unfold downF
  have H := fun w => l10Offset_any line (x + y) h0 h4 (by omega) w
  generalize offF line (x + y) = o at *
  have H' := Lib.hid H
  clear H
  go_enter Try.func86, Try.ntmps86
  go_wp2_with (first | (go_at_call 61; refine (H'.out _).mono ?_; rintro e w1 ⟨rfl, hb1⟩) | (go_at_call 79; refine (l9Down_any _ _ (by omega) (by omega) (by omega) (by omega) _).mono ?_; rintro e w' ⟨rfl, rfl⟩) | fail)
  go_ret
  exact ⟨rfl, hb1⟩
theorem downF_bd (line x y : Int) (hx0 : 0 ≤ x) (hx1 : x ≤ 19) (hy0 : 0 ≤ y) (hy1 : y ≤ 23) : -2000 ≤ downF line x y ∧ downF line x y ≤ 2000 := by
  have hb := offF_bd line (x + y)
  unfold downF
  omega
set_option maxHeartbeats 2000000 in
theorem partAt_any (d line x y : Int) (hd0 : 0 ≤ d) (hd7 : d ≤ 7) (h0 : 0 ≤ line) (h4 : line ≤ 4) (hx0 : 0 ≤ x) (hx1 : x ≤ 19) (hy0 : 0 ≤ y) (hy1 : y ≤ 23) (w : World) :
    Calls Try.prog 47 #[.int .i64 d, .int .i64 line, .int .i64 x, .int .i64 y] w fun e w' => e = .returned (.int .i64 (partF d line x y)) ∧ Below w.heap.size w w' := by
  have hc : d = 0 ∨ d = 1 ∨ d = 2 ∨ d = 3 ∨ d = 4 ∨ d = 5 ∨ d = 6 ∨ d = 7 := by omega
  clear hd0 hd7
  have b1 := offF_bd line y
  have b2 := offF_bd line x
  have b3 := downF_bd line x y hx0 hx1 hy0 hy1
  have b4 := downF_bd line (19 - x) y (by omega) (by omega) hy0 hy1
  have H1 := fun w => offset_any line y h0 h4 (by omega) w
  have H2 := fun w => offset_any line x h0 h4 (by omega) w
  have H3 := fun w => falling_any line x y h0 h4 hx0 hx1 hy0 hy1 w
  have H4 := fun w => rising_any line x y h0 h4 hx0 hx1 hy0 hy1 w
  rcases hc with rfl | rfl | rfl | rfl | rfl | rfl | rfl | rfl
  · rw [show partF 0 line x y = numI (!(true)) from rfl]
    generalize downF line x y = f1 at *
    generalize downF line (19 - x) y = f2 at *
    generalize offF line y = o1 at *
    generalize offF line x = o2 at *
    have K1 := Lib.hid H1
    have K2 := Lib.hid H2
    have K3 := Lib.hid H3
    have K4 := Lib.hid H4
    clear H1 H2 H3 H4
    go_enter Try.func47, Try.ntmps47
    go_wp2_with fail
    refine (K1.out _).mono ?_
    rintro e w1 ⟨rfl, hb1⟩
    go_wp2_with fail
    refine (K2.out _).mono ?_
    rintro e w2 ⟨rfl, hb2⟩
    have hb := hb1.trans (hb2.mono hb1.size)
    go_wp2_with (first | (go_at_call 69; refine (number_any _ _).mono ?_; rintro e w' ⟨rfl, rfl⟩) | (go_at_call 77; refine (K3.out _).mono ?_; rintro e w3 ⟨rfl, hb3⟩) | (go_at_call 78; refine (K4.out _).mono ?_; rintro e w4 ⟨rfl, hb4⟩) | fail)
    all_goals go_ret
    all_goals refine ⟨ret_int ?_, ?_⟩
    all_goals first | rfl | ((repeat (first | exact Below.refl _ _ | assumption | refine Below_al ?_ _ | refine Below.drew ?_ | refine Below_then ?_ (by assumption) | refine Below.setCell ?_ (by first | omega | (simp; done) | (simp; omega)) _)); done) | (rw [show min (max (x - o1) 0) 19 = 19 from by omega]; rfl) | (rw [show min (max (x - o1) 0) 19 = 0 from by omega]; rfl) | (rw [show min (max (x - o1) 0) 19 = x - o1 from by omega]) | (rw [show min (max (y - o2) 0) 23 = 23 from by omega]; rfl) | (rw [show min (max (y - o2) 0) 23 = 0 from by omega]; rfl) | (rw [show min (max (y - o2) 0) 23 = y - o2 from by omega])
  · rw [show partF 1 line x y = numI (!(decide (x - offF line y < 10))) from rfl]
    generalize downF line x y = f1 at *
    generalize downF line (19 - x) y = f2 at *
    generalize offF line y = o1 at *
    generalize offF line x = o2 at *
    have K1 := Lib.hid H1
    have K2 := Lib.hid H2
    have K3 := Lib.hid H3
    have K4 := Lib.hid H4
    clear H1 H2 H3 H4
    go_enter Try.func47, Try.ntmps47
    go_wp2_with fail
    refine (K1.out _).mono ?_
    rintro e w1 ⟨rfl, hb1⟩
    go_wp2_with fail
    refine (K2.out _).mono ?_
    rintro e w2 ⟨rfl, hb2⟩
    have hb := hb1.trans (hb2.mono hb1.size)
    go_wp2_with (first | (go_at_call 69; refine (number_any _ _).mono ?_; rintro e w' ⟨rfl, rfl⟩) | (go_at_call 77; refine (K3.out _).mono ?_; rintro e w3 ⟨rfl, hb3⟩) | (go_at_call 78; refine (K4.out _).mono ?_; rintro e w4 ⟨rfl, hb4⟩) | fail)
    all_goals go_ret
    all_goals refine ⟨ret_int ?_, ?_⟩
    all_goals first | rfl | ((repeat (first | exact Below.refl _ _ | assumption | refine Below_al ?_ _ | refine Below.drew ?_ | refine Below_then ?_ (by assumption) | refine Below.setCell ?_ (by first | omega | (simp; done) | (simp; omega)) _)); done) | (rw [show min (max (x - o1) 0) 19 = 19 from by omega]; rfl) | (rw [show min (max (x - o1) 0) 19 = 0 from by omega]; rfl) | (rw [show min (max (x - o1) 0) 19 = x - o1 from by omega]) | (rw [show min (max (y - o2) 0) 23 = 23 from by omega]; rfl) | (rw [show min (max (y - o2) 0) 23 = 0 from by omega]; rfl) | (rw [show min (max (y - o2) 0) 23 = y - o2 from by omega])
  · rw [show partF 2 line x y = numI (!(decide (y - offF line x < 12))) from rfl]
    generalize downF line x y = f1 at *
    generalize downF line (19 - x) y = f2 at *
    generalize offF line y = o1 at *
    generalize offF line x = o2 at *
    have K1 := Lib.hid H1
    have K2 := Lib.hid H2
    have K3 := Lib.hid H3
    have K4 := Lib.hid H4
    clear H1 H2 H3 H4
    go_enter Try.func47, Try.ntmps47
    go_wp2_with fail
    refine (K1.out _).mono ?_
    rintro e w1 ⟨rfl, hb1⟩
    go_wp2_with fail
    refine (K2.out _).mono ?_
    rintro e w2 ⟨rfl, hb2⟩
    have hb := hb1.trans (hb2.mono hb1.size)
    go_wp2_with (first | (go_at_call 69; refine (number_any _ _).mono ?_; rintro e w' ⟨rfl, rfl⟩) | (go_at_call 77; refine (K3.out _).mono ?_; rintro e w3 ⟨rfl, hb3⟩) | (go_at_call 78; refine (K4.out _).mono ?_; rintro e w4 ⟨rfl, hb4⟩) | fail)
    all_goals go_ret
    all_goals refine ⟨ret_int ?_, ?_⟩
    all_goals first | rfl | ((repeat (first | exact Below.refl _ _ | assumption | refine Below_al ?_ _ | refine Below.drew ?_ | refine Below_then ?_ (by assumption) | refine Below.setCell ?_ (by first | omega | (simp; done) | (simp; omega)) _)); done) | (rw [show min (max (x - o1) 0) 19 = 19 from by omega]; rfl) | (rw [show min (max (x - o1) 0) 19 = 0 from by omega]; rfl) | (rw [show min (max (x - o1) 0) 19 = x - o1 from by omega]) | (rw [show min (max (y - o2) 0) 23 = 23 from by omega]; rfl) | (rw [show min (max (y - o2) 0) 23 = 0 from by omega]; rfl) | (rw [show min (max (y - o2) 0) 23 = y - o2 from by omega])
  · rw [show partF 3 line x y = numI (!(decide (0 < downF line x y))) from rfl]
    generalize downF line x y = f1 at *
    generalize downF line (19 - x) y = f2 at *
    generalize offF line y = o1 at *
    generalize offF line x = o2 at *
    have K1 := Lib.hid H1
    have K2 := Lib.hid H2
    have K3 := Lib.hid H3
    have K4 := Lib.hid H4
    clear H1 H2 H3 H4
    go_enter Try.func47, Try.ntmps47
    go_wp2_with fail
    refine (K1.out _).mono ?_
    rintro e w1 ⟨rfl, hb1⟩
    go_wp2_with fail
    refine (K2.out _).mono ?_
    rintro e w2 ⟨rfl, hb2⟩
    have hb := hb1.trans (hb2.mono hb1.size)
    go_wp2_with (first | (go_at_call 69; refine (number_any _ _).mono ?_; rintro e w' ⟨rfl, rfl⟩) | (go_at_call 77; refine (K3.out _).mono ?_; rintro e w3 ⟨rfl, hb3⟩) | (go_at_call 78; refine (K4.out _).mono ?_; rintro e w4 ⟨rfl, hb4⟩) | fail)
    all_goals go_ret
    all_goals refine ⟨ret_int ?_, ?_⟩
    all_goals first | rfl | ((repeat (first | exact Below.refl _ _ | assumption | refine Below_al ?_ _ | refine Below.drew ?_ | refine Below_then ?_ (by assumption) | refine Below.setCell ?_ (by first | omega | (simp; done) | (simp; omega)) _)); done) | (rw [show min (max (x - o1) 0) 19 = 19 from by omega]; rfl) | (rw [show min (max (x - o1) 0) 19 = 0 from by omega]; rfl) | (rw [show min (max (x - o1) 0) 19 = x - o1 from by omega]) | (rw [show min (max (y - o2) 0) 23 = 23 from by omega]; rfl) | (rw [show min (max (y - o2) 0) 23 = 0 from by omega]; rfl) | (rw [show min (max (y - o2) 0) 23 = y - o2 from by omega])
  · rw [show partF 4 line x y = numI (!(decide (x - offF line y < 10) == decide (y - offF line x < 12))) from rfl]
    generalize downF line x y = f1 at *
    generalize downF line (19 - x) y = f2 at *
    generalize offF line y = o1 at *
    generalize offF line x = o2 at *
    have K1 := Lib.hid H1
    have K2 := Lib.hid H2
    have K3 := Lib.hid H3
    have K4 := Lib.hid H4
    clear H1 H2 H3 H4
    go_enter Try.func47, Try.ntmps47
    go_wp2_with fail
    refine (K1.out _).mono ?_
    rintro e w1 ⟨rfl, hb1⟩
    go_wp2_with fail
    refine (K2.out _).mono ?_
    rintro e w2 ⟨rfl, hb2⟩
    have hb := hb1.trans (hb2.mono hb1.size)
    go_wp2_with (first | (go_at_call 69; refine (number_any _ _).mono ?_; rintro e w' ⟨rfl, rfl⟩) | (go_at_call 77; refine (K3.out _).mono ?_; rintro e w3 ⟨rfl, hb3⟩) | (go_at_call 78; refine (K4.out _).mono ?_; rintro e w4 ⟨rfl, hb4⟩) | fail)
    all_goals go_ret
    all_goals refine ⟨ret_int ?_, ?_⟩
    all_goals first | rfl | ((repeat (first | exact Below.refl _ _ | assumption | refine Below_al ?_ _ | refine Below.drew ?_ | refine Below_then ?_ (by assumption) | refine Below.setCell ?_ (by first | omega | (simp; done) | (simp; omega)) _)); done) | (rw [show min (max (x - o1) 0) 19 = 19 from by omega]; rfl) | (rw [show min (max (x - o1) 0) 19 = 0 from by omega]; rfl) | (rw [show min (max (x - o1) 0) 19 = x - o1 from by omega]) | (rw [show min (max (y - o2) 0) 23 = 23 from by omega]; rfl) | (rw [show min (max (y - o2) 0) 23 = 0 from by omega]; rfl) | (rw [show min (max (y - o2) 0) 23 = y - o2 from by omega])
  · rw [show partF 5 line x y = numI (!(decide (0 < downF line x y) == decide (0 < downF line (19 - x) y))) from rfl]
    generalize downF line x y = f1 at *
    generalize downF line (19 - x) y = f2 at *
    generalize offF line y = o1 at *
    generalize offF line x = o2 at *
    have K1 := Lib.hid H1
    have K2 := Lib.hid H2
    have K3 := Lib.hid H3
    have K4 := Lib.hid H4
    clear H1 H2 H3 H4
    go_enter Try.func47, Try.ntmps47
    go_wp2_with fail
    refine (K1.out _).mono ?_
    rintro e w1 ⟨rfl, hb1⟩
    go_wp2_with fail
    refine (K2.out _).mono ?_
    rintro e w2 ⟨rfl, hb2⟩
    have hb := hb1.trans (hb2.mono hb1.size)
    go_wp2_with (first | (go_at_call 69; refine (number_any _ _).mono ?_; rintro e w' ⟨rfl, rfl⟩) | (go_at_call 77; refine (K3.out _).mono ?_; rintro e w3 ⟨rfl, hb3⟩) | (go_at_call 78; refine (K4.out _).mono ?_; rintro e w4 ⟨rfl, hb4⟩) | fail)
    all_goals go_ret
    all_goals refine ⟨ret_int ?_, ?_⟩
    all_goals first | rfl | ((repeat (first | exact Below.refl _ _ | assumption | refine Below_al ?_ _ | refine Below.drew ?_ | refine Below_then ?_ (by assumption) | refine Below.setCell ?_ (by first | omega | (simp; done) | (simp; omega)) _)); done) | (rw [show min (max (x - o1) 0) 19 = 19 from by omega]; rfl) | (rw [show min (max (x - o1) 0) 19 = 0 from by omega]; rfl) | (rw [show min (max (x - o1) 0) 19 = x - o1 from by omega]) | (rw [show min (max (y - o2) 0) 23 = 23 from by omega]; rfl) | (rw [show min (max (y - o2) 0) 23 = 0 from by omega]; rfl) | (rw [show min (max (y - o2) 0) 23 = y - o2 from by omega])
  · rw [show partF 6 line x y = numI (!(6 * min (max (x - offF line y) 0) 19 / 20 % 2 == 0)) from rfl]
    generalize downF line x y = f1 at *
    generalize downF line (19 - x) y = f2 at *
    generalize offF line y = o1 at *
    generalize offF line x = o2 at *
    have K1 := Lib.hid H1
    have K2 := Lib.hid H2
    have K3 := Lib.hid H3
    have K4 := Lib.hid H4
    clear H1 H2 H3 H4
    go_enter Try.func47, Try.ntmps47
    go_wp2_with fail
    refine (K1.out _).mono ?_
    rintro e w1 ⟨rfl, hb1⟩
    go_wp2_with fail
    refine (K2.out _).mono ?_
    rintro e w2 ⟨rfl, hb2⟩
    have hb := hb1.trans (hb2.mono hb1.size)
    go_wp2_with (first | (go_at_call 69; refine (number_any _ _).mono ?_; rintro e w' ⟨rfl, rfl⟩) | (go_at_call 77; refine (K3.out _).mono ?_; rintro e w3 ⟨rfl, hb3⟩) | (go_at_call 78; refine (K4.out _).mono ?_; rintro e w4 ⟨rfl, hb4⟩) | fail)
    all_goals go_ret
    all_goals refine ⟨ret_int ?_, ?_⟩
    all_goals first | rfl | ((repeat (first | exact Below.refl _ _ | assumption | refine Below_al ?_ _ | refine Below.drew ?_ | refine Below_then ?_ (by assumption) | refine Below.setCell ?_ (by first | omega | (simp; done) | (simp; omega)) _)); done) | (rw [show min (max (x - o1) 0) 19 = 19 from by omega]; rfl) | (rw [show min (max (x - o1) 0) 19 = 0 from by omega]; rfl) | (rw [show min (max (x - o1) 0) 19 = x - o1 from by omega]) | (rw [show min (max (y - o2) 0) 23 = 23 from by omega]; rfl) | (rw [show min (max (y - o2) 0) 23 = 0 from by omega]; rfl) | (rw [show min (max (y - o2) 0) 23 = y - o2 from by omega])
  · rw [show partF 7 line x y = numI (!(min (max (y - offF line x) 0) 23 / 4 % 2 == 0)) from rfl]
    generalize downF line x y = f1 at *
    generalize downF line (19 - x) y = f2 at *
    generalize offF line y = o1 at *
    generalize offF line x = o2 at *
    have K1 := Lib.hid H1
    have K2 := Lib.hid H2
    have K3 := Lib.hid H3
    have K4 := Lib.hid H4
    clear H1 H2 H3 H4
    go_enter Try.func47, Try.ntmps47
    go_wp2_with fail
    refine (K1.out _).mono ?_
    rintro e w1 ⟨rfl, hb1⟩
    go_wp2_with fail
    refine (K2.out _).mono ?_
    rintro e w2 ⟨rfl, hb2⟩
    have hb := hb1.trans (hb2.mono hb1.size)
    go_wp2_with (first | (go_at_call 69; refine (number_any _ _).mono ?_; rintro e w' ⟨rfl, rfl⟩) | (go_at_call 77; refine (K3.out _).mono ?_; rintro e w3 ⟨rfl, hb3⟩) | (go_at_call 78; refine (K4.out _).mono ?_; rintro e w4 ⟨rfl, hb4⟩) | fail)
    all_goals go_ret
    all_goals refine ⟨ret_int ?_, ?_⟩
    all_goals first | rfl | ((repeat (first | exact Below.refl _ _ | assumption | refine Below_al ?_ _ | refine Below.drew ?_ | refine Below_then ?_ (by assumption) | refine Below.setCell ?_ (by first | omega | (simp; done) | (simp; omega)) _)); done) | (rw [show min (max (x - o1) 0) 19 = 19 from by omega]; rfl) | (rw [show min (max (x - o1) 0) 19 = 0 from by omega]; rfl) | (rw [show min (max (x - o1) 0) 19 = x - o1 from by omega]) | (rw [show min (max (y - o2) 0) 23 = 23 from by omega]; rfl) | (rw [show min (max (y - o2) 0) 23 = 0 from by omega]; rfl) | (rw [show min (max (y - o2) 0) 23 = y - o2 from by omega])
end Go.Proofs.Ytfmigkiliggdhaa
