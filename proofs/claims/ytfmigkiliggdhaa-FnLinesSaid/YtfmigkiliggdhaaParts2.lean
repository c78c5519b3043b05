/- Contracts of the cells of ordinaries and of the reference's parts. -/
import Derived.Test.YtfmigkiliggdhaaParts
namespace Go.Proofs.Ytfmigkiliggdhaa
open Go.ChangeShapes Go.WideShapes Go.ChangeAt Go.RowKit

set_option maxHeartbeats 2000000 in
theorem covers_any (o line x y : Int) (hd0 : 0 ≤ o) (hd7 : o ≤ 7) (h0 : 0 ≤ line) (h4 : line ≤ 4) (hx0 : 0 ≤ x) (hx1 : x ≤ 19) (hy0 : 0 ≤ y) (hy1 : y ≤ 23) (w : World) :
    Calls Try.prog 74 #[.int .i64 o, .int .i64 line, .int .i64 x, .int .i64 y] w fun e w' => e = .returned (.bool (covB o line x y)) ∧ Below w.heap.size w w' := by
  have hc : o = 0 ∨ o = 1 ∨ o = 2 ∨ o = 3 ∨ o = 4 ∨ o = 5 ∨ o = 6 ∨ o = 7 := by omega
  clear hd0 hd7
  have b1 := offF_bd line y
  have b2 := offF_bd line x
  have b3 := downF_bd line x y hx0 hx1 hy0 hy1
  have b4 := downF_bd line (19 - x) y (by omega) (by omega) hy0 hy1
  have H1 := fun w => offset_any line y h0 h4 (by omega) w
  have H2 := fun w => offset_any line x h0 h4 (by omega) w
  have H3 := fun w => falling_any line x y h0 h4 hx0 hx1 hy0 hy1 w
  have H4 := fun w => rising_any line x y h0 h4 hx0 hx1 hy0 hy1 w
  rcases hc with rfl | rfl | rfl | rfl | rfl | rfl | rfl | rfl
  · rw [show covB 0 line x y = (false) from rfl]
    generalize downF line x y = f1 at *
    generalize downF line (19 - x) y = f2 at *
    generalize offF line y = o1 at *
    generalize offF line x = o2 at *
    have K1 := Lib.hid H1
    have K2 := Lib.hid H2
    have K3 := Lib.hid H3
    have K4 := Lib.hid H4
    clear H1 H2 H3 H4
    go_enter Try.func74, Try.ntmps74
    go_wp2_with fail
    refine (K1.out _).mono ?_
    rintro e w1 ⟨rfl, hb1⟩
    go_wp2_with fail
    refine (K2.out _).mono ?_
    rintro e w2 ⟨rfl, hb2⟩
    have hb := hb1.trans (hb2.mono hb1.size)
    go_wp2_with (first | (go_at_call 89; refine (absOf_any _ (by omega) (by omega) _).mono ?_; rintro e w' ⟨rfl, rfl⟩) | (go_at_call 44; refine (inside_any _ _ _ _).mono ?_; rintro e w' ⟨rfl, rfl⟩) | (go_at_call 77; refine (K3.out _).mono ?_; rintro e w3 ⟨rfl, hb3⟩) | (go_at_call 78; refine (K4.out _).mono ?_; rintro e w4 ⟨rfl, hb4⟩) | (go_at_call 59; refine (K2.out _).mono ?_; rintro e w5 ⟨rfl, hb5⟩) | fail)
    all_goals go_ret
    all_goals refine ⟨ret_bool ?_, ?_⟩
    all_goals first | ((repeat (first | exact Below.refl _ _ | assumption | refine Below_al ?_ _ | refine Below.drew ?_ | refine Below_then ?_ (by assumption) | refine Below.setCell ?_ (by first | omega | (simp; done) | (simp; omega)) _)); done) | (first | rfl | (simp; done) | (simp; omega) | (simp_all; done) | (rw [Bool.eq_iff_iff]; simp; omega))
  · rw [show covB 1 line x y = (decide (7 ≤ x - offF line y ∧ x - offF line y ≤ 12)) from rfl]
    generalize downF line x y = f1 at *
    generalize downF line (19 - x) y = f2 at *
    generalize offF line y = o1 at *
    generalize offF line x = o2 at *
    have K1 := Lib.hid H1
    have K2 := Lib.hid H2
    have K3 := Lib.hid H3
    have K4 := Lib.hid H4
    clear H1 H2 H3 H4
    go_enter Try.func74, Try.ntmps74
    go_wp2_with fail
    refine (K1.out _).mono ?_
    rintro e w1 ⟨rfl, hb1⟩
    go_wp2_with fail
    refine (K2.out _).mono ?_
    rintro e w2 ⟨rfl, hb2⟩
    have hb := hb1.trans (hb2.mono hb1.size)
    go_wp2_with (first | (go_at_call 89; refine (absOf_any _ (by omega) (by omega) _).mono ?_; rintro e w' ⟨rfl, rfl⟩) | (go_at_call 44; refine (inside_any _ _ _ _).mono ?_; rintro e w' ⟨rfl, rfl⟩) | (go_at_call 77; refine (K3.out _).mono ?_; rintro e w3 ⟨rfl, hb3⟩) | (go_at_call 78; refine (K4.out _).mono ?_; rintro e w4 ⟨rfl, hb4⟩) | (go_at_call 59; refine (K2.out _).mono ?_; rintro e w5 ⟨rfl, hb5⟩) | fail)
    all_goals go_ret
    all_goals refine ⟨ret_bool ?_, ?_⟩
    all_goals first | ((repeat (first | exact Below.refl _ _ | assumption | refine Below_al ?_ _ | refine Below.drew ?_ | refine Below_then ?_ (by assumption) | refine Below.setCell ?_ (by first | omega | (simp; done) | (simp; omega)) _)); done) | (first | rfl | (simp; done) | (simp; omega) | (simp_all; done) | (rw [Bool.eq_iff_iff]; simp; omega))
  · rw [show covB 2 line x y = (decide (8 ≤ y - offF line x ∧ y - offF line x ≤ 15)) from rfl]
    generalize downF line x y = f1 at *
    generalize downF line (19 - x) y = f2 at *
    generalize offF line y = o1 at *
    generalize offF line x = o2 at *
    have K1 := Lib.hid H1
    have K2 := Lib.hid H2
    have K3 := Lib.hid H3
    have K4 := Lib.hid H4
    clear H1 H2 H3 H4
    go_enter Try.func74, Try.ntmps74
    go_wp2_with fail
    refine (K1.out _).mono ?_
    rintro e w1 ⟨rfl, hb1⟩
    go_wp2_with fail
    refine (K2.out _).mono ?_
    rintro e w2 ⟨rfl, hb2⟩
    have hb := hb1.trans (hb2.mono hb1.size)
    go_wp2_with (first | (go_at_call 89; refine (absOf_any _ (by omega) (by omega) _).mono ?_; rintro e w' ⟨rfl, rfl⟩) | (go_at_call 44; refine (inside_any _ _ _ _).mono ?_; rintro e w' ⟨rfl, rfl⟩) | (go_at_call 77; refine (K3.out _).mono ?_; rintro e w3 ⟨rfl, hb3⟩) | (go_at_call 78; refine (K4.out _).mono ?_; rintro e w4 ⟨rfl, hb4⟩) | (go_at_call 59; refine (K2.out _).mono ?_; rintro e w5 ⟨rfl, hb5⟩) | fail)
    all_goals go_ret
    all_goals refine ⟨ret_bool ?_, ?_⟩
    all_goals first | ((repeat (first | exact Below.refl _ _ | assumption | refine Below_al ?_ _ | refine Below.drew ?_ | refine Below_then ?_ (by assumption) | refine Below.setCell ?_ (by first | omega | (simp; done) | (simp; omega)) _)); done) | (first | rfl | (simp; done) | (simp; omega) | (simp_all; done) | (rw [Bool.eq_iff_iff]; simp; omega))
  · rw [show covB 3 line x y = (decide (max (downF line x y) (-downF line x y) ≤ 160)) from rfl]
    generalize downF line x y = f1 at *
    generalize downF line (19 - x) y = f2 at *
    generalize offF line y = o1 at *
    generalize offF line x = o2 at *
    have K1 := Lib.hid H1
    have K2 := Lib.hid H2
    have K3 := Lib.hid H3
    have K4 := Lib.hid H4
    clear H1 H2 H3 H4
    go_enter Try.func74, Try.ntmps74
    go_wp2_with fail
    refine (K1.out _).mono ?_
    rintro e w1 ⟨rfl, hb1⟩
    go_wp2_with fail
    refine (K2.out _).mono ?_
    rintro e w2 ⟨rfl, hb2⟩
    have hb := hb1.trans (hb2.mono hb1.size)
    go_wp2_with (first | (go_at_call 89; refine (absOf_any _ (by omega) (by omega) _).mono ?_; rintro e w' ⟨rfl, rfl⟩) | (go_at_call 44; refine (inside_any _ _ _ _).mono ?_; rintro e w' ⟨rfl, rfl⟩) | (go_at_call 77; refine (K3.out _).mono ?_; rintro e w3 ⟨rfl, hb3⟩) | (go_at_call 78; refine (K4.out _).mono ?_; rintro e w4 ⟨rfl, hb4⟩) | (go_at_call 59; refine (K2.out _).mono ?_; rintro e w5 ⟨rfl, hb5⟩) | fail)
    all_goals go_ret
    all_goals refine ⟨ret_bool ?_, ?_⟩
    all_goals first | ((repeat (first | exact Below.refl _ _ | assumption | refine Below_al ?_ _ | refine Below.drew ?_ | refine Below_then ?_ (by assumption) | refine Below.setCell ?_ (by first | omega | (simp; done) | (simp; omega)) _)); done) | (first | rfl | (simp; done) | (simp; omega) | (simp_all; done) | (rw [Bool.eq_iff_iff]; simp; omega))
  · rw [show covB 4 line x y = (decide (11 ≤ 2 * y + 1 - max (2 * x - 19) (-(2 * x - 19)) - 2 * offF line x ∧ 2 * y + 1 - max (2 * x - 19) (-(2 * x - 19)) - 2 * offF line x ≤ 22)) from rfl]
    generalize downF line x y = f1 at *
    generalize downF line (19 - x) y = f2 at *
    generalize offF line y = o1 at *
    generalize offF line x = o2 at *
    have K1 := Lib.hid H1
    have K2 := Lib.hid H2
    have K3 := Lib.hid H3
    have K4 := Lib.hid H4
    clear H1 H2 H3 H4
    go_enter Try.func74, Try.ntmps74
    go_wp2_with fail
    refine (K1.out _).mono ?_
    rintro e w1 ⟨rfl, hb1⟩
    go_wp2_with fail
    refine (K2.out _).mono ?_
    rintro e w2 ⟨rfl, hb2⟩
    have hb := hb1.trans (hb2.mono hb1.size)
    go_wp2_with (first | (go_at_call 89; refine (absOf_any _ (by omega) (by omega) _).mono ?_; rintro e w' ⟨rfl, rfl⟩) | (go_at_call 44; refine (inside_any _ _ _ _).mono ?_; rintro e w' ⟨rfl, rfl⟩) | (go_at_call 77; refine (K3.out _).mono ?_; rintro e w3 ⟨rfl, hb3⟩) | (go_at_call 78; refine (K4.out _).mono ?_; rintro e w4 ⟨rfl, hb4⟩) | (go_at_call 59; refine (K2.out _).mono ?_; rintro e w5 ⟨rfl, hb5⟩) | fail)
    all_goals go_ret
    all_goals refine ⟨ret_bool ?_, ?_⟩
    all_goals first | ((repeat (first | exact Below.refl _ _ | assumption | refine Below_al ?_ _ | refine Below.drew ?_ | refine Below_then ?_ (by assumption) | refine Below.setCell ?_ (by first | omega | (simp; done) | (simp; omega)) _)); done) | (first | rfl | (simp; done) | (simp; omega) | (simp_all; done) | (rw [Bool.eq_iff_iff]; simp; omega))
  · rw [show covB 5 line x y = (decide (8 ≤ x - offF line y ∧ x - offF line y ≤ 11) || decide (10 ≤ y - offF line x ∧ y - offF line x ≤ 13)) from rfl]
    generalize downF line x y = f1 at *
    generalize downF line (19 - x) y = f2 at *
    generalize offF line y = o1 at *
    generalize offF line x = o2 at *
    have K1 := Lib.hid H1
    have K2 := Lib.hid H2
    have K3 := Lib.hid H3
    have K4 := Lib.hid H4
    clear H1 H2 H3 H4
    go_enter Try.func74, Try.ntmps74
    go_wp2_with fail
    refine (K1.out _).mono ?_
    rintro e w1 ⟨rfl, hb1⟩
    go_wp2_with fail
    refine (K2.out _).mono ?_
    rintro e w2 ⟨rfl, hb2⟩
    have hb := hb1.trans (hb2.mono hb1.size)
    go_wp2_with (first | (go_at_call 89; refine (absOf_any _ (by omega) (by omega) _).mono ?_; rintro e w' ⟨rfl, rfl⟩) | (go_at_call 44; refine (inside_any _ _ _ _).mono ?_; rintro e w' ⟨rfl, rfl⟩) | (go_at_call 77; refine (K3.out _).mono ?_; rintro e w3 ⟨rfl, hb3⟩) | (go_at_call 78; refine (K4.out _).mono ?_; rintro e w4 ⟨rfl, hb4⟩) | (go_at_call 59; refine (K2.out _).mono ?_; rintro e w5 ⟨rfl, hb5⟩) | fail)
    all_goals go_ret
    all_goals refine ⟨ret_bool ?_, ?_⟩
    all_goals first | ((repeat (first | exact Below.refl _ _ | assumption | refine Below_al ?_ _ | refine Below.drew ?_ | refine Below_then ?_ (by assumption) | refine Below.setCell ?_ (by first | omega | (simp; done) | (simp; omega)) _)); done) | (first | rfl | (simp; done) | (simp; omega) | (simp_all; done) | (rw [Bool.eq_iff_iff]; simp; omega))
  · rw [show covB 6 line x y = (decide (max (downF line x y) (-downF line x y) ≤ 120) || decide (max (downF line (19 - x) y) (-downF line (19 - x) y) ≤ 120)) from rfl]
    generalize downF line x y = f1 at *
    generalize downF line (19 - x) y = f2 at *
    generalize offF line y = o1 at *
    generalize offF line x = o2 at *
    have K1 := Lib.hid H1
    have K2 := Lib.hid H2
    have K3 := Lib.hid H3
    have K4 := Lib.hid H4
    clear H1 H2 H3 H4
    go_enter Try.func74, Try.ntmps74
    go_wp2_with fail
    refine (K1.out _).mono ?_
    rintro e w1 ⟨rfl, hb1⟩
    go_wp2_with fail
    refine (K2.out _).mono ?_
    rintro e w2 ⟨rfl, hb2⟩
    have hb := hb1.trans (hb2.mono hb1.size)
    go_wp2_with (first | (go_at_call 89; refine (absOf_any _ (by omega) (by omega) _).mono ?_; rintro e w' ⟨rfl, rfl⟩) | (go_at_call 44; refine (inside_any _ _ _ _).mono ?_; rintro e w' ⟨rfl, rfl⟩) | (go_at_call 77; refine (K3.out _).mono ?_; rintro e w3 ⟨rfl, hb3⟩) | (go_at_call 78; refine (K4.out _).mono ?_; rintro e w4 ⟨rfl, hb4⟩) | (go_at_call 59; refine (K2.out _).mono ?_; rintro e w5 ⟨rfl, hb5⟩) | fail)
    all_goals go_ret
    all_goals refine ⟨ret_bool ?_, ?_⟩
    all_goals first | ((repeat (first | exact Below.refl _ _ | assumption | refine Below_al ?_ _ | refine Below.drew ?_ | refine Below_then ?_ (by assumption) | refine Below.setCell ?_ (by first | omega | (simp; done) | (simp; omega)) _)); done) | (first | rfl | (simp; done) | (simp; omega) | (simp_all; done) | (rw [Bool.eq_iff_iff]; simp; omega))
  · rw [show covB 7 line x y = (decide (y - offF line x < 8)) from rfl]
    generalize downF line x y = f1 at *
    generalize downF line (19 - x) y = f2 at *
    generalize offF line y = o1 at *
    generalize offF line x = o2 at *
    have K1 := Lib.hid H1
    have K2 := Lib.hid H2
    have K3 := Lib.hid H3
    have K4 := Lib.hid H4
    clear H1 H2 H3 H4
    go_enter Try.func74, Try.ntmps74
    go_wp2_with fail
    refine (K1.out _).mono ?_
    rintro e w1 ⟨rfl, hb1⟩
    go_wp2_with fail
    refine (K2.out _).mono ?_
    rintro e w2 ⟨rfl, hb2⟩
    have hb := hb1.trans (hb2.mono hb1.size)
    go_wp2_with (first | (go_at_call 89; refine (absOf_any _ (by omega) (by omega) _).mono ?_; rintro e w' ⟨rfl, rfl⟩) | (go_at_call 44; refine (inside_any _ _ _ _).mono ?_; rintro e w' ⟨rfl, rfl⟩) | (go_at_call 77; refine (K3.out _).mono ?_; rintro e w3 ⟨rfl, hb3⟩) | (go_at_call 78; refine (K4.out _).mono ?_; rintro e w4 ⟨rfl, hb4⟩) | (go_at_call 59; refine (K2.out _).mono ?_; rintro e w5 ⟨rfl, hb5⟩) | fail)
    all_goals go_ret
    all_goals refine ⟨ret_bool ?_, ?_⟩
    all_goals first | ((repeat (first | exact Below.refl _ _ | assumption | refine Below_al ?_ _ | refine Below.drew ?_ | refine Below_then ?_ (by assumption) | refine Below.setCell ?_ (by first | omega | (simp; done) | (simp; omega)) _)); done) | (first | rfl | (simp; done) | (simp; omega) | (simp_all; done) | (rw [Bool.eq_iff_iff]; simp; omega))
set_option maxHeartbeats 2000000 in
theorem l9Part_any (d x y : Int) (hd0 : 0 ≤ d) (hd7 : d ≤ 7) (hx0 : 0 ≤ x) (hx1 : x ≤ 19) (hy0 : 0 ≤ y) (hy1 : y ≤ 23) (w : World) :
    Calls Try.prog 50 #[.int .i64 d, .int .i64 x, .int .i64 y] w fun e w' => e = .returned (.int .i64 (numI (!l9B d x y))) ∧ w = w' := by
  have hc : d = 0 ∨ d = 1 ∨ d = 2 ∨ d = 3 ∨ d = 4 ∨ d = 5 ∨ d = 6 ∨ d = 7 := by omega
  clear hd0 hd7
  rcases hc with rfl | rfl | rfl | rfl | rfl | rfl | rfl | rfl
  · rw [show l9B 0 x y = (true) from rfl]
    go_enter Try.func50, Try.ntmps50
    go_wp2_with (first | (go_at_call 79; refine (l9Down_any _ _ (by omega) (by omega) (by omega) (by omega) _).mono ?_; rintro e w' ⟨rfl, rfl⟩) | fail)
    all_goals go_ret
    all_goals refine ⟨ret_int ?_, rfl⟩
    all_goals first | rfl | (simp [numI, *]; done) | (simp_all [numI]; done) | (simp [numI]; omega)
  · rw [show l9B 1 x y = (decide (x < 10)) from rfl]
    go_enter Try.func50, Try.ntmps50
    go_wp2_with (first | (go_at_call 79; refine (l9Down_any _ _ (by omega) (by omega) (by omega) (by omega) _).mono ?_; rintro e w' ⟨rfl, rfl⟩) | fail)
    all_goals go_ret
    all_goals refine ⟨ret_int ?_, rfl⟩
    all_goals first | rfl | (simp [numI, *]; done) | (simp_all [numI]; done) | (simp [numI]; omega)
  · rw [show l9B 2 x y = (decide (y < 12)) from rfl]
    go_enter Try.func50, Try.ntmps50
    go_wp2_with (first | (go_at_call 79; refine (l9Down_any _ _ (by omega) (by omega) (by omega) (by omega) _).mono ?_; rintro e w' ⟨rfl, rfl⟩) | fail)
    all_goals go_ret
    all_goals refine ⟨ret_int ?_, rfl⟩
    all_goals first | rfl | (simp [numI, *]; done) | (simp_all [numI]; done) | (simp [numI]; omega)
  · rw [show l9B 3 x y = (decide (0 < 24 * (2 * x + 1) - 20 * (2 * y + 1))) from rfl]
    go_enter Try.func50, Try.ntmps50
    go_wp2_with (first | (go_at_call 79; refine (l9Down_any _ _ (by omega) (by omega) (by omega) (by omega) _).mono ?_; rintro e w' ⟨rfl, rfl⟩) | fail)
    all_goals go_ret
    all_goals refine ⟨ret_int ?_, rfl⟩
    all_goals first | rfl | (simp [numI, *]; done) | (simp_all [numI]; done) | (simp [numI]; omega)
  · rw [show l9B 4 x y = (decide (x < 10) == decide (y < 12)) from rfl]
    go_enter Try.func50, Try.ntmps50
    go_wp2_with (first | (go_at_call 79; refine (l9Down_any _ _ (by omega) (by omega) (by omega) (by omega) _).mono ?_; rintro e w' ⟨rfl, rfl⟩) | fail)
    all_goals go_ret
    all_goals refine ⟨ret_int ?_, rfl⟩
    all_goals first | rfl | (simp [numI, *]; done) | (simp_all [numI]; done) | (simp [numI]; omega)
  · rw [show l9B 5 x y = (decide (0 < 24 * (2 * x + 1) - 20 * (2 * y + 1)) == decide (0 < 24 * (2 * (19 - x) + 1) - 20 * (2 * y + 1))) from rfl]
    go_enter Try.func50, Try.ntmps50
    go_wp2_with (first | (go_at_call 79; refine (l9Down_any _ _ (by omega) (by omega) (by omega) (by omega) _).mono ?_; rintro e w' ⟨rfl, rfl⟩) | fail)
    all_goals go_ret
    all_goals refine ⟨ret_int ?_, rfl⟩
    all_goals first | rfl | (simp [numI, *]; done) | (simp_all [numI]; done) | (simp [numI]; omega)
  · rw [show l9B 6 x y = (6 * x / 20 % 2 == 0) from rfl]
    go_enter Try.func50, Try.ntmps50
    go_wp2_with (first | (go_at_call 79; refine (l9Down_any _ _ (by omega) (by omega) (by omega) (by omega) _).mono ?_; rintro e w' ⟨rfl, rfl⟩) | fail)
    all_goals go_ret
    all_goals refine ⟨ret_int ?_, rfl⟩
    all_goals first | rfl | (simp [numI, *]; done) | (simp_all [numI]; done) | (simp [numI]; omega)
  · rw [show l9B 7 x y = (y / 4 % 2 == 0) from rfl]
    go_enter Try.func50, Try.ntmps50
    go_wp2_with (first | (go_at_call 79; refine (l9Down_any _ _ (by omega) (by omega) (by omega) (by omega) _).mono ?_; rintro e w' ⟨rfl, rfl⟩) | fail)
    all_goals go_ret
    all_goals refine ⟨ret_int ?_, rfl⟩
    all_goals first | rfl | (simp [numI, *]; done) | (simp_all [numI]; done) | (simp [numI]; omega)
set_option maxHeartbeats 2000000 in
theorem l9Ord_any (d x y : Int) (hd0 : 0 ≤ d) (hd7 : d ≤ 7) (hx0 : -50 ≤ x) (hx1 : x ≤ 50) (hy0 : -50 ≤ y) (hy1 : y ≤ 50) (w : World) :
    Calls Try.prog 54 #[.int .i64 d, .int .i64 x, .int .i64 y] w fun e w' => e = .returned (.bool (l9O d x y)) ∧ w = w' := by
  have hc : d = 0 ∨ d = 1 ∨ d = 2 ∨ d = 3 ∨ d = 4 ∨ d = 5 ∨ d = 6 ∨ d = 7 := by omega
  clear hd0 hd7
  rcases hc with rfl | rfl | rfl | rfl | rfl | rfl | rfl | rfl
  · rw [show l9O 0 x y = (false) from rfl]
    go_enter Try.func54, Try.ntmps54
    go_wp2_with (first | (go_at_call 79; refine (l9Down_any _ _ (by omega) (by omega) (by omega) (by omega) _).mono ?_; rintro e w' ⟨rfl, rfl⟩) | (go_at_call 81; refine (l9Abs_any _ (by omega) (by omega) _).mono ?_; rintro e w' ⟨rfl, rfl⟩) | (go_at_call 48; refine (l1In_any _ _ _ _).mono ?_; rintro e w' ⟨rfl, rfl⟩) | fail)
    all_goals go_ret
    all_goals refine ⟨ret_bool ?_, rfl⟩
    all_goals (first | rfl | (simp; done) | (simp; omega) | (simp_all; done) | (rw [Bool.eq_iff_iff]; simp; omega))
  · rw [show l9O 1 x y = (decide (7 ≤ x ∧ x ≤ 12)) from rfl]
    go_enter Try.func54, Try.ntmps54
    go_wp2_with (first | (go_at_call 79; refine (l9Down_any _ _ (by omega) (by omega) (by omega) (by omega) _).mono ?_; rintro e w' ⟨rfl, rfl⟩) | (go_at_call 81; refine (l9Abs_any _ (by omega) (by omega) _).mono ?_; rintro e w' ⟨rfl, rfl⟩) | (go_at_call 48; refine (l1In_any _ _ _ _).mono ?_; rintro e w' ⟨rfl, rfl⟩) | fail)
    all_goals go_ret
    all_goals refine ⟨ret_bool ?_, rfl⟩
    all_goals (first | rfl | (simp; done) | (simp; omega) | (simp_all; done) | (rw [Bool.eq_iff_iff]; simp; omega))
  · rw [show l9O 2 x y = (decide (8 ≤ y ∧ y ≤ 15)) from rfl]
    go_enter Try.func54, Try.ntmps54
    go_wp2_with (first | (go_at_call 79; refine (l9Down_any _ _ (by omega) (by omega) (by omega) (by omega) _).mono ?_; rintro e w' ⟨rfl, rfl⟩) | (go_at_call 81; refine (l9Abs_any _ (by omega) (by omega) _).mono ?_; rintro e w' ⟨rfl, rfl⟩) | (go_at_call 48; refine (l1In_any _ _ _ _).mono ?_; rintro e w' ⟨rfl, rfl⟩) | fail)
    all_goals go_ret
    all_goals refine ⟨ret_bool ?_, rfl⟩
    all_goals (first | rfl | (simp; done) | (simp; omega) | (simp_all; done) | (rw [Bool.eq_iff_iff]; simp; omega))
  · rw [show l9O 3 x y = (decide (max (24 * (2 * x + 1) - 20 * (2 * y + 1)) (-(24 * (2 * x + 1) - 20 * (2 * y + 1))) ≤ 160)) from rfl]
    go_enter Try.func54, Try.ntmps54
    go_wp2_with (first | (go_at_call 79; refine (l9Down_any _ _ (by omega) (by omega) (by omega) (by omega) _).mono ?_; rintro e w' ⟨rfl, rfl⟩) | (go_at_call 81; refine (l9Abs_any _ (by omega) (by omega) _).mono ?_; rintro e w' ⟨rfl, rfl⟩) | (go_at_call 48; refine (l1In_any _ _ _ _).mono ?_; rintro e w' ⟨rfl, rfl⟩) | fail)
    all_goals go_ret
    all_goals refine ⟨ret_bool ?_, rfl⟩
    all_goals (first | rfl | (simp; done) | (simp; omega) | (simp_all; done) | (rw [Bool.eq_iff_iff]; simp; omega))
  · rw [show l9O 4 x y = (decide (11 ≤ 2 * y + 1 - max (2 * x - 19) (-(2 * x - 19)) ∧ 2 * y + 1 - max (2 * x - 19) (-(2 * x - 19)) ≤ 22)) from rfl]
    go_enter Try.func54, Try.ntmps54
    go_wp2_with (first | (go_at_call 79; refine (l9Down_any _ _ (by omega) (by omega) (by omega) (by omega) _).mono ?_; rintro e w' ⟨rfl, rfl⟩) | (go_at_call 81; refine (l9Abs_any _ (by omega) (by omega) _).mono ?_; rintro e w' ⟨rfl, rfl⟩) | (go_at_call 48; refine (l1In_any _ _ _ _).mono ?_; rintro e w' ⟨rfl, rfl⟩) | fail)
    all_goals go_ret
    all_goals refine ⟨ret_bool ?_, rfl⟩
    all_goals (first | rfl | (simp; done) | (simp; omega) | (simp_all; done) | (rw [Bool.eq_iff_iff]; simp; omega))
  · rw [show l9O 5 x y = (decide (8 ≤ x ∧ x ≤ 11) || decide (10 ≤ y ∧ y ≤ 13)) from rfl]
    go_enter Try.func54, Try.ntmps54
    go_wp2_with (first | (go_at_call 79; refine (l9Down_any _ _ (by omega) (by omega) (by omega) (by omega) _).mono ?_; rintro e w' ⟨rfl, rfl⟩) | (go_at_call 81; refine (l9Abs_any _ (by omega) (by omega) _).mono ?_; rintro e w' ⟨rfl, rfl⟩) | (go_at_call 48; refine (l1In_any _ _ _ _).mono ?_; rintro e w' ⟨rfl, rfl⟩) | fail)
    all_goals go_ret
    all_goals refine ⟨ret_bool ?_, rfl⟩
    all_goals (first | rfl | (simp; done) | (simp; omega) | (simp_all; done) | (rw [Bool.eq_iff_iff]; simp; omega))
  · rw [show l9O 6 x y = (decide (max (24 * (2 * x + 1) - 20 * (2 * y + 1)) (-(24 * (2 * x + 1) - 20 * (2 * y + 1))) ≤ 120) || decide (max (24 * (2 * (19 - x) + 1) - 20 * (2 * y + 1)) (-(24 * (2 * (19 - x) + 1) - 20 * (2 * y + 1))) ≤ 120)) from rfl]
    go_enter Try.func54, Try.ntmps54
    go_wp2_with (first | (go_at_call 79; refine (l9Down_any _ _ (by omega) (by omega) (by omega) (by omega) _).mono ?_; rintro e w' ⟨rfl, rfl⟩) | (go_at_call 81; refine (l9Abs_any _ (by omega) (by omega) _).mono ?_; rintro e w' ⟨rfl, rfl⟩) | (go_at_call 48; refine (l1In_any _ _ _ _).mono ?_; rintro e w' ⟨rfl, rfl⟩) | fail)
    all_goals go_ret
    all_goals refine ⟨ret_bool ?_, rfl⟩
    all_goals (first | rfl | (simp; done) | (simp; omega) | (simp_all; done) | (rw [Bool.eq_iff_iff]; simp; omega))
  · rw [show l9O 7 x y = (decide (y < 8)) from rfl]
    go_enter Try.func54, Try.ntmps54
    go_wp2_with (first | (go_at_call 79; refine (l9Down_any _ _ (by omega) (by omega) (by omega) (by omega) _).mono ?_; rintro e w' ⟨rfl, rfl⟩) | (go_at_call 81; refine (l9Abs_any _ (by omega) (by omega) _).mono ?_; rintro e w' ⟨rfl, rfl⟩) | (go_at_call 48; refine (l1In_any _ _ _ _).mono ?_; rintro e w' ⟨rfl, rfl⟩) | fail)
    all_goals go_ret
    all_goals refine ⟨ret_bool ?_, rfl⟩
    all_goals (first | rfl | (simp; done) | (simp; omega) | (simp_all; done) | (rw [Bool.eq_iff_iff]; simp; omega))
end Go.Proofs.Ytfmigkiliggdhaa
