/- Contracts of the reference's parts of a field with a line. -/
import Derived.Test.YtenaadmifppphaaGreatDoorParts2
namespace Go.Proofs.YtenaadmifppphaaGreatDoor
open Go.ChangeShapes Go.WideShapes Go.ChangeAt Go.RowKit

set_option maxRecDepth 100000 in
set_option maxHeartbeats 4000000 in
theorem l10Part_any (d line p q x y : Int) (hd0 : 0 ≤ d) (hd7 : d ≤ 7) (h0 : 0 ≤ line) (h4 : line ≤ 4) (hx0 : 0 ≤ x) (hx1 : x ≤ 19) (hy0 : 0 ≤ y) (hy1 : y ≤ 23) (w : World) :
    Calls Tryz.prog 89 #[.agg #[.int .i64 d, .int .i64 line, .int .i64 p, .int .i64 q], .int .i64 x, .int .i64 y] w fun e w' => e = .returned (.int .i64 (partF d line x y)) ∧ Below w.heap.size w w' := by
  have hc : d = 0 ∨ d = 1 ∨ d = 2 ∨ d = 3 ∨ d = 4 ∨ d = 5 ∨ d = 6 ∨ d = 7 := by omega
  clear hd0 hd7
  have b1 := offF_bd line y
  have b2 := offF_bd line x
  have b3 := downF_bd line x y hx0 hx1 hy0 hy1
  have b4 := downF_bd line (19 - x) y (by omega) (by omega) hy0 hy1
  have H1 := fun w => l10Offset_any line y h0 h4 (by omega) w
  have H2 := fun w => l10Offset_any line x h0 h4 (by omega) w
  have H3 := fun w => l10Down_any line x y h0 h4 hx0 hx1 hy0 hy1 w
  have H4 := fun w => l10Down_any line (19 - x) y h0 h4 (by omega) (by omega) hy0 hy1 w
  rcases hc with rfl | rfl | rfl | rfl | rfl | rfl | rfl | rfl
  · rw [show partF 0 line x y = numI (!(true)) from rfl]
    generalize downF line x y = f1 at *
    generalize downF line (19 - x) y = f2 at *
    generalize offF line y = o1 at *
    generalize offF line x = o2 at *
    have K1 := Lib.hid H1
    have K2 := Lib.hid H2
    have K3 := Lib.hid H3
    have K4 := Lib.hid H4
    clear H1 H2 H3 H4
    go_enter Tryz.func89, Tryz.ntmps89
    go_wp2_with (first | (go_at_call 97; refine (K3.out _).mono ?_; rintro e w3 ⟨rfl, hb3⟩) | fail)
    all_goals go_ret
    all_goals refine ⟨ret_int ?_, ?_⟩
    all_goals first | ((repeat (first | exact Below.refl _ _ | assumption | refine Below_al ?_ _ | refine Below.drew ?_ | refine Below_then ?_ (by assumption) | refine Below.setCell ?_ (by first | omega | (simp; done) | (simp; omega)) _)); done) | exact And.right (And.right (by assumption)) | rfl | (simp [numI, *]; done) | (simp_all [numI]; done) | (rw [show max 0 (min 19 (x - o1)) = min (max (x - o1) 0) 19 from by omega]; rfl) | (rw [show max 0 (min 23 (y - o2)) = min (max (y - o2) 0) 23 from by omega]; rfl) | (show numI (!decide (max 0 (min 19 (x - o1)) < 10)) = _; rw [show decide (max 0 (min 19 (x - o1)) < 10) = decide (x - o1 < 10) from decide_eq_decide.2 (by omega)]) | (show numI (!decide (max 0 (min 23 (y - o2)) < 12)) = _; rw [show decide (max 0 (min 23 (y - o2)) < 12) = decide (y - o2 < 12) from decide_eq_decide.2 (by omega)])
  · rw [show partF 1 line x y = numI (!(decide (x - offF line y < 10))) from rfl]
    generalize downF line x y = f1 at *
    generalize downF line (19 - x) y = f2 at *
    generalize offF line y = o1 at *
    generalize offF line x = o2 at *
    have K1 := Lib.hid H1
    have K2 := Lib.hid H2
    have K3 := Lib.hid H3
    have K4 := Lib.hid H4
    clear H1 H2 H3 H4
    go_enter Tryz.func89, Tryz.ntmps89
    go_wp2_with (first | (go_at_call 97; refine (K3.out _).mono ?_; rintro e w3 ⟨rfl, hb3⟩) | fail)
    have s1 : IntKind.i64.wrap (19 - x) = 19 - x := IntWalk.i64_in _ (by omega)
    have s2 : IntKind.i64.wrap (x - o1) = x - o1 := IntWalk.i64_in _ (by omega)
    have s3 : IntKind.i64.wrap (y - o2) = y - o2 := IntWalk.i64_in _ (by omega)
    go_region_held3 (fun w' => w'.cell? ⟨w.heap.size, 0, none⟩ = some (.int .i64 1) ∧ w'.cell? ⟨w.heap.size, 1, none⟩ = some (.int .i64 line) ∧ Below w.heap.size w w') (first | assumption | exact held2 (by assumption) (by assumption) | (refine ⟨by simp, by simp, ?_⟩; (repeat (first | exact Below.refl _ _ | assumption | refine Below_al ?_ _ | refine Below.drew ?_ | refine Below_then ?_ (by assumption) | refine Below.setCell ?_ (by first | omega | (simp; done) | (simp; omega)) _)))) ((first | (go_at_call 97; first | ((with_reducible refine (K3.out _).mono ?_); rintro e w3 ⟨rfl, hb3⟩) | ((with_reducible refine (K4.out _).mono ?_); rintro e w4 ⟨rfl, hb4⟩)) | (go_at_call 98; first | ((with_reducible refine (K1.out _).mono ?_); rintro e w3 ⟨rfl, hb3⟩) | ((with_reducible refine (K2.out _).mono ?_); rintro e w4 ⟨rfl, hb4⟩)) | (go_at_call 36; refine (l1Least_any _ _ _).mono ?_; rintro e w' ⟨rfl, rfl⟩) | (go_at_call 90; refine (l1Most_any _ _ _).mono ?_; rintro e w' ⟨rfl, rfl⟩) | (go_at_call 99; refine (l9Part_any _ _ _ (by omega) (by omega) (by omega) (by omega) (by omega) (by omega) _).mono ?_; rintro e w' ⟨rfl, rfl⟩)))
    clear s1 s2 s3
    go_wp2
    all_goals go_ret
    all_goals refine ⟨ret_int ?_, ?_⟩
    all_goals first | ((repeat (first | exact Below.refl _ _ | assumption | refine Below_al ?_ _ | refine Below.drew ?_ | refine Below_then ?_ (by assumption) | refine Below.setCell ?_ (by first | omega | (simp; done) | (simp; omega)) _)); done) | exact And.right (And.right (by assumption)) | rfl | (simp [numI, *]; done) | (simp_all [numI]; done) | (rw [show max 0 (min 19 (x - o1)) = min (max (x - o1) 0) 19 from by omega]; rfl) | (rw [show max 0 (min 23 (y - o2)) = min (max (y - o2) 0) 23 from by omega]; rfl) | (show numI (!decide (max 0 (min 19 (x - o1)) < 10)) = _; rw [show decide (max 0 (min 19 (x - o1)) < 10) = decide (x - o1 < 10) from decide_eq_decide.2 (by omega)]) | (show numI (!decide (max 0 (min 23 (y - o2)) < 12)) = _; rw [show decide (max 0 (min 23 (y - o2)) < 12) = decide (y - o2 < 12) from decide_eq_decide.2 (by omega)])
  · rw [show partF 2 line x y = numI (!(decide (y - offF line x < 12))) from rfl]
    generalize downF line x y = f1 at *
    generalize downF line (19 - x) y = f2 at *
    generalize offF line y = o1 at *
    generalize offF line x = o2 at *
    have K1 := Lib.hid H1
    have K2 := Lib.hid H2
    have K3 := Lib.hid H3
    have K4 := Lib.hid H4
    clear H1 H2 H3 H4
    go_enter Tryz.func89, Tryz.ntmps89
    go_wp2_with (first | (go_at_call 97; refine (K3.out _).mono ?_; rintro e w3 ⟨rfl, hb3⟩) | fail)
    have s1 : IntKind.i64.wrap (19 - x) = 19 - x := IntWalk.i64_in _ (by omega)
    have s2 : IntKind.i64.wrap (x - o1) = x - o1 := IntWalk.i64_in _ (by omega)
    have s3 : IntKind.i64.wrap (y - o2) = y - o2 := IntWalk.i64_in _ (by omega)
    go_region_held3 (fun w' => w'.cell? ⟨w.heap.size, 0, none⟩ = some (.int .i64 2) ∧ w'.cell? ⟨w.heap.size, 1, none⟩ = some (.int .i64 line) ∧ Below w.heap.size w w') (first | assumption | exact held2 (by assumption) (by assumption) | (refine ⟨by simp, by simp, ?_⟩; (repeat (first | exact Below.refl _ _ | assumption | refine Below_al ?_ _ | refine Below.drew ?_ | refine Below_then ?_ (by assumption) | refine Below.setCell ?_ (by first | omega | (simp; done) | (simp; omega)) _)))) ((first | (go_at_call 97; first | ((with_reducible refine (K3.out _).mono ?_); rintro e w3 ⟨rfl, hb3⟩) | ((with_reducible refine (K4.out _).mono ?_); rintro e w4 ⟨rfl, hb4⟩)) | (go_at_call 98; first | ((with_reducible refine (K1.out _).mono ?_); rintro e w3 ⟨rfl, hb3⟩) | ((with_reducible refine (K2.out _).mono ?_); rintro e w4 ⟨rfl, hb4⟩)) | (go_at_call 36; refine (l1Least_any _ _ _).mono ?_; rintro e w' ⟨rfl, rfl⟩) | (go_at_call 90; refine (l1Most_any _ _ _).mono ?_; rintro e w' ⟨rfl, rfl⟩) | (go_at_call 99; refine (l9Part_any _ _ _ (by omega) (by omega) (by omega) (by omega) (by omega) (by omega) _).mono ?_; rintro e w' ⟨rfl, rfl⟩)))
    clear s1 s2 s3
    go_wp2
    all_goals go_ret
    all_goals refine ⟨ret_int ?_, ?_⟩
    all_goals first | ((repeat (first | exact Below.refl _ _ | assumption | refine Below_al ?_ _ | refine Below.drew ?_ | refine Below_then ?_ (by assumption) | refine Below.setCell ?_ (by first | omega | (simp; done) | (simp; omega)) _)); done) | exact And.right (And.right (by assumption)) | rfl | (simp [numI, *]; done) | (simp_all [numI]; done) | (rw [show max 0 (min 19 (x - o1)) = min (max (x - o1) 0) 19 from by omega]; rfl) | (rw [show max 0 (min 23 (y - o2)) = min (max (y - o2) 0) 23 from by omega]; rfl) | (show numI (!decide (max 0 (min 19 (x - o1)) < 10)) = _; rw [show decide (max 0 (min 19 (x - o1)) < 10) = decide (x - o1 < 10) from decide_eq_decide.2 (by omega)]) | (show numI (!decide (max 0 (min 23 (y - o2)) < 12)) = _; rw [show decide (max 0 (min 23 (y - o2)) < 12) = decide (y - o2 < 12) from decide_eq_decide.2 (by omega)])
  · rw [show partF 3 line x y = numI (!(decide (0 < downF line x y))) from rfl]
    generalize downF line x y = f1 at *
    generalize downF line (19 - x) y = f2 at *
    generalize offF line y = o1 at *
    generalize offF line x = o2 at *
    have K1 := Lib.hid H1
    have K2 := Lib.hid H2
    have K3 := Lib.hid H3
    have K4 := Lib.hid H4
    clear H1 H2 H3 H4
    go_enter Tryz.func89, Tryz.ntmps89
    go_wp2_with (first | (go_at_call 97; refine (K3.out _).mono ?_; rintro e w3 ⟨rfl, hb3⟩) | fail)
    all_goals go_ret
    all_goals refine ⟨ret_int ?_, ?_⟩
    all_goals first | ((repeat (first | exact Below.refl _ _ | assumption | refine Below_al ?_ _ | refine Below.drew ?_ | refine Below_then ?_ (by assumption) | refine Below.setCell ?_ (by first | omega | (simp; done) | (simp; omega)) _)); done) | exact And.right (And.right (by assumption)) | rfl | (simp [numI, *]; done) | (simp_all [numI]; done) | (rw [show max 0 (min 19 (x - o1)) = min (max (x - o1) 0) 19 from by omega]; rfl) | (rw [show max 0 (min 23 (y - o2)) = min (max (y - o2) 0) 23 from by omega]; rfl) | (show numI (!decide (max 0 (min 19 (x - o1)) < 10)) = _; rw [show decide (max 0 (min 19 (x - o1)) < 10) = decide (x - o1 < 10) from decide_eq_decide.2 (by omega)]) | (show numI (!decide (max 0 (min 23 (y - o2)) < 12)) = _; rw [show decide (max 0 (min 23 (y - o2)) < 12) = decide (y - o2 < 12) from decide_eq_decide.2 (by omega)])
  · rw [show partF 4 line x y = numI (!(decide (x - offF line y < 10) == decide (y - offF line x < 12))) from rfl]
    generalize downF line x y = f1 at *
    generalize downF line (19 - x) y = f2 at *
    generalize offF line y = o1 at *
    generalize offF line x = o2 at *
    have K1 := Lib.hid H1
    have K2 := Lib.hid H2
    have K3 := Lib.hid H3
    have K4 := Lib.hid H4
    clear H1 H2 H3 H4
    go_enter Tryz.func89, Tryz.ntmps89
    go_wp2_with (first | (go_at_call 97; refine (K3.out _).mono ?_; rintro e w3 ⟨rfl, hb3⟩) | fail)
    have s1 : IntKind.i64.wrap (19 - x) = 19 - x := IntWalk.i64_in _ (by omega)
    have s2 : IntKind.i64.wrap (x - o1) = x - o1 := IntWalk.i64_in _ (by omega)
    have s3 : IntKind.i64.wrap (y - o2) = y - o2 := IntWalk.i64_in _ (by omega)
    go_region_held3 (fun w' => w'.cell? ⟨w.heap.size, 0, none⟩ = some (.int .i64 4) ∧ w'.cell? ⟨w.heap.size, 1, none⟩ = some (.int .i64 line) ∧ Below w.heap.size w w') (first | assumption | exact held2 (by assumption) (by assumption) | (refine ⟨by simp, by simp, ?_⟩; (repeat (first | exact Below.refl _ _ | assumption | refine Below_al ?_ _ | refine Below.drew ?_ | refine Below_then ?_ (by assumption) | refine Below.setCell ?_ (by first | omega | (simp; done) | (simp; omega)) _)))) ((first | (go_at_call 97; first | ((with_reducible refine (K3.out _).mono ?_); rintro e w3 ⟨rfl, hb3⟩) | ((with_reducible refine (K4.out _).mono ?_); rintro e w4 ⟨rfl, hb4⟩)) | (go_at_call 98; first | ((with_reducible refine (K1.out _).mono ?_); rintro e w3 ⟨rfl, hb3⟩) | ((with_reducible refine (K2.out _).mono ?_); rintro e w4 ⟨rfl, hb4⟩)) | (go_at_call 36; refine (l1Least_any _ _ _).mono ?_; rintro e w' ⟨rfl, rfl⟩) | (go_at_call 90; refine (l1Most_any _ _ _).mono ?_; rintro e w' ⟨rfl, rfl⟩) | (go_at_call 99; refine (l9Part_any _ _ _ (by omega) (by omega) (by omega) (by omega) (by omega) (by omega) _).mono ?_; rintro e w' ⟨rfl, rfl⟩)))
    clear s1 s2 s3
    go_wp2
    all_goals go_ret
    all_goals refine ⟨ret_int ?_, ?_⟩
    all_goals first | ((repeat (first | exact Below.refl _ _ | assumption | refine Below_al ?_ _ | refine Below.drew ?_ | refine Below_then ?_ (by assumption) | refine Below.setCell ?_ (by first | omega | (simp; done) | (simp; omega)) _)); done) | exact And.right (And.right (by assumption)) | rfl | (simp [numI, *]; done) | (simp_all [numI]; done) | (rw [show max 0 (min 19 (x - o1)) = min (max (x - o1) 0) 19 from by omega]; rfl) | (rw [show max 0 (min 23 (y - o2)) = min (max (y - o2) 0) 23 from by omega]; rfl) | (show numI (!decide (max 0 (min 19 (x - o1)) < 10)) = _; rw [show decide (max 0 (min 19 (x - o1)) < 10) = decide (x - o1 < 10) from decide_eq_decide.2 (by omega)]) | (show numI (!decide (max 0 (min 23 (y - o2)) < 12)) = _; rw [show decide (max 0 (min 23 (y - o2)) < 12) = decide (y - o2 < 12) from decide_eq_decide.2 (by omega)])
  · rw [show partF 5 line x y = numI (!(decide (0 < downF line x y) == decide (0 < downF line (19 - x) y))) from rfl]
    generalize downF line x y = f1 at *
    generalize downF line (19 - x) y = f2 at *
    generalize offF line y = o1 at *
    generalize offF line x = o2 at *
    have K1 := Lib.hid H1
    have K2 := Lib.hid H2
    have K3 := Lib.hid H3
    have K4 := Lib.hid H4
    clear H1 H2 H3 H4
    go_enter Tryz.func89, Tryz.ntmps89
    go_wp2_with (first | (go_at_call 97; refine (K3.out _).mono ?_; rintro e w3 ⟨rfl, hb3⟩) | fail)
    have s1 : IntKind.i64.wrap (19 - x) = 19 - x := IntWalk.i64_in _ (by omega)
    have s2 : IntKind.i64.wrap (x - o1) = x - o1 := IntWalk.i64_in _ (by omega)
    have s3 : IntKind.i64.wrap (y - o2) = y - o2 := IntWalk.i64_in _ (by omega)
    go_region_held3 (fun w' => w'.cell? ⟨w.heap.size, 0, none⟩ = some (.int .i64 5) ∧ w'.cell? ⟨w.heap.size, 1, none⟩ = some (.int .i64 line) ∧ Below w.heap.size w w') (first | assumption | exact held2 (by assumption) (by assumption) | (refine ⟨by simp, by simp, ?_⟩; (repeat (first | exact Below.refl _ _ | assumption | refine Below_al ?_ _ | refine Below.drew ?_ | refine Below_then ?_ (by assumption) | refine Below.setCell ?_ (by first | omega | (simp; done) | (simp; omega)) _)))) ((first | (go_at_call 97; first | ((with_reducible refine (K3.out _).mono ?_); rintro e w3 ⟨rfl, hb3⟩) | ((with_reducible refine (K4.out _).mono ?_); rintro e w4 ⟨rfl, hb4⟩)) | (go_at_call 98; first | ((with_reducible refine (K1.out _).mono ?_); rintro e w3 ⟨rfl, hb3⟩) | ((with_reducible refine (K2.out _).mono ?_); rintro e w4 ⟨rfl, hb4⟩)) | (go_at_call 36; refine (l1Least_any _ _ _).mono ?_; rintro e w' ⟨rfl, rfl⟩) | (go_at_call 90; refine (l1Most_any _ _ _).mono ?_; rintro e w' ⟨rfl, rfl⟩) | (go_at_call 99; refine (l9Part_any _ _ _ (by omega) (by omega) (by omega) (by omega) (by omega) (by omega) _).mono ?_; rintro e w' ⟨rfl, rfl⟩)))
    clear s1 s2 s3
    go_wp2
    all_goals go_ret
    all_goals refine ⟨ret_int ?_, ?_⟩
    all_goals first | ((repeat (first | exact Below.refl _ _ | assumption | refine Below_al ?_ _ | refine Below.drew ?_ | refine Below_then ?_ (by assumption) | refine Below.setCell ?_ (by first | omega | (simp; done) | (simp; omega)) _)); done) | exact And.right (And.right (by assumption)) | rfl | (simp [numI, *]; done) | (simp_all [numI]; done) | (rw [show max 0 (min 19 (x - o1)) = min (max (x - o1) 0) 19 from by omega]; rfl) | (rw [show max 0 (min 23 (y - o2)) = min (max (y - o2) 0) 23 from by omega]; rfl) | (show numI (!decide (max 0 (min 19 (x - o1)) < 10)) = _; rw [show decide (max 0 (min 19 (x - o1)) < 10) = decide (x - o1 < 10) from decide_eq_decide.2 (by omega)]) | (show numI (!decide (max 0 (min 23 (y - o2)) < 12)) = _; rw [show decide (max 0 (min 23 (y - o2)) < 12) = decide (y - o2 < 12) from decide_eq_decide.2 (by omega)])
  · rw [show partF 6 line x y = numI (!(6 * min (max (x - offF line y) 0) 19 / 20 % 2 == 0)) from rfl]
    generalize downF line x y = f1 at *
    generalize downF line (19 - x) y = f2 at *
    generalize offF line y = o1 at *
    generalize offF line x = o2 at *
    have K1 := Lib.hid H1
    have K2 := Lib.hid H2
    have K3 := Lib.hid H3
    have K4 := Lib.hid H4
    clear H1 H2 H3 H4
    go_enter Tryz.func89, Tryz.ntmps89
    go_wp2_with (first | (go_at_call 97; refine (K3.out _).mono ?_; rintro e w3 ⟨rfl, hb3⟩) | fail)
    have s1 : IntKind.i64.wrap (19 - x) = 19 - x := IntWalk.i64_in _ (by omega)
    have s2 : IntKind.i64.wrap (x - o1) = x - o1 := IntWalk.i64_in _ (by omega)
    have s3 : IntKind.i64.wrap (y - o2) = y - o2 := IntWalk.i64_in _ (by omega)
    go_region_held3 (fun w' => w'.cell? ⟨w.heap.size, 0, none⟩ = some (.int .i64 6) ∧ w'.cell? ⟨w.heap.size, 1, none⟩ = some (.int .i64 line) ∧ Below w.heap.size w w') (first | assumption | exact held2 (by assumption) (by assumption) | (refine ⟨by simp, by simp, ?_⟩; (repeat (first | exact Below.refl _ _ | assumption | refine Below_al ?_ _ | refine Below.drew ?_ | refine Below_then ?_ (by assumption) | refine Below.setCell ?_ (by first | omega | (simp; done) | (simp; omega)) _)))) ((first | (go_at_call 97; first | ((with_reducible refine (K3.out _).mono ?_); rintro e w3 ⟨rfl, hb3⟩) | ((with_reducible refine (K4.out _).mono ?_); rintro e w4 ⟨rfl, hb4⟩)) | (go_at_call 98; first | ((with_reducible refine (K1.out _).mono ?_); rintro e w3 ⟨rfl, hb3⟩) | ((with_reducible refine (K2.out _).mono ?_); rintro e w4 ⟨rfl, hb4⟩)) | (go_at_call 36; refine (l1Least_any _ _ _).mono ?_; rintro e w' ⟨rfl, rfl⟩) | (go_at_call 90; refine (l1Most_any _ _ _).mono ?_; rintro e w' ⟨rfl, rfl⟩) | (go_at_call 99; refine (l9Part_any _ _ _ (by omega) (by omega) (by omega) (by omega) (by omega) (by omega) _).mono ?_; rintro e w' ⟨rfl, rfl⟩)))
    clear s1 s2 s3
    go_wp2
    all_goals go_ret
    all_goals refine ⟨ret_int ?_, ?_⟩
    all_goals first | ((repeat (first | exact Below.refl _ _ | assumption | refine Below_al ?_ _ | refine Below.drew ?_ | refine Below_then ?_ (by assumption) | refine Below.setCell ?_ (by first | omega | (simp; done) | (simp; omega)) _)); done) | exact And.right (And.right (by assumption)) | rfl | (simp [numI, *]; done) | (simp_all [numI]; done) | (rw [show max 0 (min 19 (x - o1)) = min (max (x - o1) 0) 19 from by omega]; rfl) | (rw [show max 0 (min 23 (y - o2)) = min (max (y - o2) 0) 23 from by omega]; rfl) | (show numI (!decide (max 0 (min 19 (x - o1)) < 10)) = _; rw [show decide (max 0 (min 19 (x - o1)) < 10) = decide (x - o1 < 10) from decide_eq_decide.2 (by omega)]) | (show numI (!decide (max 0 (min 23 (y - o2)) < 12)) = _; rw [show decide (max 0 (min 23 (y - o2)) < 12) = decide (y - o2 < 12) from decide_eq_decide.2 (by omega)])
  · rw [show partF 7 line x y = numI (!(min (max (y - offF line x) 0) 23 / 4 % 2 == 0)) from rfl]
    generalize downF line x y = f1 at *
    generalize downF line (19 - x) y = f2 at *
    generalize offF line y = o1 at *
    generalize offF line x = o2 at *
    have K1 := Lib.hid H1
    have K2 := Lib.hid H2
    have K3 := Lib.hid H3
    have K4 := Lib.hid H4
    clear H1 H2 H3 H4
    go_enter Tryz.func89, Tryz.ntmps89
    go_wp2_with (first | (go_at_call 97; refine (K3.out _).mono ?_; rintro e w3 ⟨rfl, hb3⟩) | fail)
    have s1 : IntKind.i64.wrap (19 - x) = 19 - x := IntWalk.i64_in _ (by omega)
    have s2 : IntKind.i64.wrap (x - o1) = x - o1 := IntWalk.i64_in _ (by omega)
    have s3 : IntKind.i64.wrap (y - o2) = y - o2 := IntWalk.i64_in _ (by omega)
    go_region_held3 (fun w' => w'.cell? ⟨w.heap.size, 0, none⟩ = some (.int .i64 7) ∧ w'.cell? ⟨w.heap.size, 1, none⟩ = some (.int .i64 line) ∧ Below w.heap.size w w') (first | assumption | exact held2 (by assumption) (by assumption) | (refine ⟨by simp, by simp, ?_⟩; (repeat (first | exact Below.refl _ _ | assumption | refine Below_al ?_ _ | refine Below.drew ?_ | refine Below_then ?_ (by assumption) | refine Below.setCell ?_ (by first | omega | (simp; done) | (simp; omega)) _)))) ((first | (go_at_call 97; first | ((with_reducible refine (K3.out _).mono ?_); rintro e w3 ⟨rfl, hb3⟩) | ((with_reducible refine (K4.out _).mono ?_); rintro e w4 ⟨rfl, hb4⟩)) | (go_at_call 98; first | ((with_reducible refine (K1.out _).mono ?_); rintro e w3 ⟨rfl, hb3⟩) | ((with_reducible refine (K2.out _).mono ?_); rintro e w4 ⟨rfl, hb4⟩)) | (go_at_call 36; refine (l1Least_any _ _ _).mono ?_; rintro e w' ⟨rfl, rfl⟩) | (go_at_call 90; refine (l1Most_any _ _ _).mono ?_; rintro e w' ⟨rfl, rfl⟩) | (go_at_call 99; refine (l9Part_any _ _ _ (by omega) (by omega) (by omega) (by omega) (by omega) (by omega) _).mono ?_; rintro e w' ⟨rfl, rfl⟩)))
    clear s1 s2 s3
    go_wp2
    all_goals go_ret
    all_goals refine ⟨ret_int ?_, ?_⟩
    all_goals first | ((repeat (first | exact Below.refl _ _ | assumption | refine Below_al ?_ _ | refine Below.drew ?_ | refine Below_then ?_ (by assumption) | refine Below.setCell ?_ (by first | omega | (simp; done) | (simp; omega)) _)); done) | exact And.right (And.right (by assumption)) | rfl | (simp [numI, *]; done) | (simp_all [numI]; done) | (rw [show max 0 (min 19 (x - o1)) = min (max (x - o1) 0) 19 from by omega]; rfl) | (rw [show max 0 (min 23 (y - o2)) = min (max (y - o2) 0) 23 from by omega]; rfl) | (show numI (!decide (max 0 (min 19 (x - o1)) < 10)) = _; rw [show decide (max 0 (min 19 (x - o1)) < 10) = decide (x - o1 < 10) from decide_eq_decide.2 (by omega)]) | (show numI (!decide (max 0 (min 23 (y - o2)) < 12)) = _; rw [show decide (max 0 (min 23 (y - o2)) < 12) = decide (y - o2 < 12) from decide_eq_decide.2 (by omega)])
end Go.Proofs.YtenaadmifppphaaGreatDoor
