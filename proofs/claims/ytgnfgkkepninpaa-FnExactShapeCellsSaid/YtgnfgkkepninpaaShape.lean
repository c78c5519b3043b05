/- Contracts: the charges' shapes. -/
import Derived.Test.YtgnfgkkepninpaaFields
import Derived.Test.YtgnfgkkepninpaaParts
import Derived.IntWalk
namespace Go.Proofs.Ytgnfgkkepninpaa
open Go.ChangeShapes Go.WideShapes Go.ChangeAt Go.RowKit
set_option linter.unusedVariables false
def ab (x : Int) : Int := max x (-x)
theorem ab_bd {x : Int} (h0 : -8 ≤ x) (h1 : x ≤ 8) : 0 ≤ ab x ∧ ab x ≤ 8 := by unfold ab; omega
def coreF (k n p q : Int) : Bool :=
  if k = 1 then decide (ab p + ab q ≤ 2 * n - 4) || decide (n ≤ 2) else if k = 2 then decide (ab q ≤ ab p) else if k = 3 then decide (2 * ab q ≤ n)
  else if k = 4 then decide (p * p + q * q ≤ n * n) else if k = 5 then decide (2 * ab p ≤ n) || decide (2 * ab q ≤ n) else if k = 6 then decide (2 * ab p ≤ n) || decide (0 < q)
  else if k = 7 then decide (3 * ab p ≤ n) || decide (q < 0) else decide (3 * ab p ≤ n) || decide (q = 0) || decide (q = 1)
def shapeF (k a n u v : Int) : Bool := if a = 2 then coreF k n (2 * v + 1 - n) (2 * u + 1 - n) else coreF k n (2 * u + 1 - n) (2 * v + 1 - n)
def kindAtt (k a : Int) : Bool := decide ((1 ≤ k ∧ k ≤ 8) ∧ (k ≤ 3 ∧ 1 ≤ a ∧ a ≤ 2 ∨ 3 < k ∧ a = 0))
theorem mul_bd {p : Int} (h0 : -8 ≤ p) (h1 : p ≤ 8) : 0 ≤ p * p ∧ p * p ≤ 64 := by
  constructor
  · have h3 : ((p.natAbs * p.natAbs : Nat) : Int) = p * p := Int.natAbs_mul_self
    omega
  · have h2 : (8 - p) * (8 + p) ≥ 0 := Int.mul_nonneg (by omega) (by omega)
    have e : (8 - p) * (8 + p) = 64 - p * p := by rw [Int.sub_mul, Int.mul_add, Int.mul_add, Int.mul_comm p 8]; omega
    omega
theorem absOf_ab (n : Int) (h0 : -1000000 ≤ n) (h1 : n ≤ 1000000) (w : World) :
    Calls Try.prog 83 #[.int .i64 n] w fun e w' => e = .returned (.int .i64 (ab n)) ∧ w = w' := absOf_any n h0 h1 w
theorem l1Most_ab (a : Int) (w : World) :
    Calls Try.prog 80 #[.int .i64 a, .int .i64 (-a)] w fun e w' => e = .returned (.int .i64 (ab a)) ∧ w = w' := l1Most_any a (-a) w
set_option maxHeartbeats 2000000 in
theorem shape_any (k a n u v : Int) (w : World) (hk : 1 ≤ k ∧ k ≤ 8) (hn : 1 ≤ n ∧ n ≤ 8) (hu : 0 ≤ u ∧ u ≤ n - 1) (hv : 0 ≤ v ∧ v ≤ n - 1) :
    Calls Try.prog 52 #[.int .i64 k, .int .i64 a, .int .i64 n, .int .i64 u, .int .i64 v] w fun e w' => e = .returned (.bool (shapeF k a n u v)) ∧ w = w' := by
  obtain ⟨hk1, hk8⟩ := hk
  obtain ⟨hn1, hn8⟩ := hn
  obtain ⟨hu0, hu1⟩ := hu
  obtain ⟨hv0, hv1⟩ := hv
  obtain ⟨b1, b2⟩ := mul_bd (p := 2 * u + 1 - n) (by omega) (by omega)
  obtain ⟨b3, b4⟩ := mul_bd (p := 2 * v + 1 - n) (by omega) (by omega)
  obtain ⟨b5, b6⟩ := mul_bd (p := n) (by omega) (by omega)
  obtain ⟨b7, b8⟩ := ab_bd (x := 2 * u + 1 - n) (by omega) (by omega)
  obtain ⟨b9, b10⟩ := ab_bd (x := 2 * v + 1 - n) (by omega) (by omega)
  have hc : k = 1 ∨ k = 2 ∨ k = 3 ∨ k = 4 ∨ k = 5 ∨ k = 6 ∨ k = 7 ∨ k = 8 := by omega
  clear hk1 hk8
  by_cases ha : a = 2
  · subst ha
    rcases hc with rfl | rfl | rfl | rfl | rfl | rfl | rfl | rfl
    all_goals
      go_enter Try.func52, Try.ntmps52
      go_wp2_with (first | (go_at_call 83; refine (absOf_ab _ (by omega) (by omega) _).mono ?_; rintro e w' ⟨rfl, rfl⟩) | fail)
      all_goals go_ret
      all_goals refine ⟨ret_bool ?_, rfl⟩
      all_goals (first | rfl | (simp [shapeF, coreF]; done) | (simp [shapeF, coreF]; omega) | (simp_all [shapeF, coreF]; done) | (simp_all [shapeF, coreF]; omega) | (rw [Bool.eq_iff_iff]; simp [shapeF, coreF]; omega) | (rw [Bool.eq_iff_iff]; simp_all [shapeF, coreF]; omega) | (rw [Bool.eq_iff_iff]; simp [shapeF, coreF] at *; omega))
  · rcases hc with rfl | rfl | rfl | rfl | rfl | rfl | rfl | rfl
    all_goals
      go_enter Try.func52, Try.ntmps52
      go_wp2_with (first | (go_at_call 83; refine (absOf_ab _ (by omega) (by omega) _).mono ?_; rintro e w' ⟨rfl, rfl⟩) | fail)
      all_goals go_ret
      all_goals refine ⟨ret_bool ?_, rfl⟩
      all_goals (first | rfl | (simp [shapeF, coreF]; done) | (simp [shapeF, coreF]; omega) | (simp_all [shapeF, coreF]; done) | (simp_all [shapeF, coreF]; omega) | (rw [Bool.eq_iff_iff]; simp [shapeF, coreF]; omega) | (rw [Bool.eq_iff_iff]; simp_all [shapeF, coreF]; omega) | (rw [Bool.eq_iff_iff]; simp [shapeF, coreF] at *; omega))
set_option maxHeartbeats 2000000 in
theorem l12Cell_any (k a n u v : Int) (w : World) (hk : 1 ≤ k ∧ k ≤ 8) (hn : 1 ≤ n ∧ n ≤ 8) (hu : 0 ≤ u ∧ u ≤ n - 1) (hv : 0 ≤ v ∧ v ≤ n - 1) :
    Calls Try.prog 50 #[.int .i64 k, .int .i64 a, .int .i64 n, .int .i64 u, .int .i64 v] w fun e w' => e = .returned (.bool (shapeF k a n u v)) ∧ w = w' := by
  obtain ⟨hk1, hk8⟩ := hk
  obtain ⟨hn1, hn8⟩ := hn
  obtain ⟨hu0, hu1⟩ := hu
  obtain ⟨hv0, hv1⟩ := hv
  obtain ⟨b1, b2⟩ := mul_bd (p := 2 * u + 1 - n) (by omega) (by omega)
  obtain ⟨b3, b4⟩ := mul_bd (p := 2 * v + 1 - n) (by omega) (by omega)
  obtain ⟨b5, b6⟩ := mul_bd (p := n) (by omega) (by omega)
  obtain ⟨b7, b8⟩ := ab_bd (x := 2 * u + 1 - n) (by omega) (by omega)
  obtain ⟨b9, b10⟩ := ab_bd (x := 2 * v + 1 - n) (by omega) (by omega)
  have hc : k = 1 ∨ k = 2 ∨ k = 3 ∨ k = 4 ∨ k = 5 ∨ k = 6 ∨ k = 7 ∨ k = 8 := by omega
  clear hk1 hk8
  by_cases ha : a = 2
  · subst ha
    rcases hc with rfl | rfl | rfl | rfl | rfl | rfl | rfl | rfl
    all_goals
      go_enter Try.func50, Try.ntmps50
      go_wp2_with (first | (go_at_call 80; refine (l1Most_ab _ _).mono ?_; rintro e w' ⟨rfl, rfl⟩) | fail)
      all_goals go_ret
      all_goals refine ⟨ret_bool ?_, rfl⟩
      all_goals (first | rfl | (simp [shapeF, coreF]; done) | (simp [shapeF, coreF]; omega) | (simp_all [shapeF, coreF]; done) | (simp_all [shapeF, coreF]; omega) | (rw [Bool.eq_iff_iff]; simp [shapeF, coreF]; omega) | (rw [Bool.eq_iff_iff]; simp_all [shapeF, coreF]; omega) | (rw [Bool.eq_iff_iff]; simp [shapeF, coreF] at *; omega))
  · rcases hc with rfl | rfl | rfl | rfl | rfl | rfl | rfl | rfl
    all_goals
      go_enter Try.func50, Try.ntmps50
      go_wp2_with (first | (go_at_call 80; refine (l1Most_ab _ _).mono ?_; rintro e w' ⟨rfl, rfl⟩) | fail)
      all_goals go_ret
      all_goals refine ⟨ret_bool ?_, rfl⟩
      all_goals (first | rfl | (simp [shapeF, coreF]; done) | (simp [shapeF, coreF]; omega) | (simp_all [shapeF, coreF]; done) | (simp_all [shapeF, coreF]; omega) | (rw [Bool.eq_iff_iff]; simp [shapeF, coreF]; omega) | (rw [Bool.eq_iff_iff]; simp_all [shapeF, coreF]; omega) | (rw [Bool.eq_iff_iff]; simp [shapeF, coreF] at *; omega))
theorem hasAttitude_any (k a : Int) (w : World) :
    Calls Try.prog 51 #[.int .i64 k, .int .i64 a] w fun e w' => e = .returned (.bool (kindAtt k a)) ∧ Below w.heap.size w w' := by
  by_cases hk : 1 ≤ k ∧ k ≤ 8
  · obtain ⟨h1, h8⟩ := hk
    by_cases h3 : k ≤ 3
    all_goals
      go_enter Try.func51, Try.ntmps51
      go_wp2_with (first | (go_at_call 45; refine (inside_any _ _ _ _).mono ?_; rintro e w' ⟨rfl, rfl⟩) | (go_at_call 81; refine (isKind_any _ _).mono ?_; rintro e w' ⟨rfl, rfl⟩) | (go_at_call 82; refine (attitudes_len _ (by omega) (by omega) _).mono ?_; rintro e w1 ⟨A, rfl, hb1⟩) | fail)
      all_goals go_ret
      all_goals refine ⟨ret_bool ?_, by (repeat (first | exact Below.refl _ _ | assumption | refine Below_al ?_ _ | refine Below.drew ?_ | refine Below_then ?_ (by assumption) | refine Below.setCell ?_ (by first | omega | (simp; done) | (simp; omega)) _))⟩
      all_goals (first | rfl | (simp [kindAtt]; done) | (simp [kindAtt]; omega) | (simp_all [kindAtt]; done) | (simp_all [kindAtt]; omega) | (rw [Bool.eq_iff_iff]; simp [kindAtt]; omega) | (rw [Bool.eq_iff_iff]; simp_all [kindAtt]; omega) | (rw [Bool.eq_iff_iff]; simp [kindAtt] at *; omega))
  · have hd : decide (1 ≤ k ∧ k ≤ 8) = false := by simpa using hk
    have hz : kindAtt k a = false := by simp [kindAtt]; omega
    rw [hz]
    clear hz hk
    go_enter Try.func51, Try.ntmps51
    go_wp2_with (first | (go_at_call 81; refine (isKind_any _ _).mono ?_; rintro e w' ⟨rfl, rfl⟩) | fail)
    go_ret
    exact ⟨rfl, by (repeat (first | exact Below.refl _ _ | assumption | refine Below_al ?_ _ | refine Below.drew ?_ | refine Below_then ?_ (by assumption) | refine Below.setCell ?_ (by first | omega | (simp; done) | (simp; omega)) _))⟩
theorem l12Shape_any (k a n : Int) (w : World) :
    Calls Try.prog 48 #[.int .i64 k, .int .i64 a, .int .i64 n] w fun e w' => e = .returned (.bool (kindAtt k a && decide (1 ≤ n ∧ n ≤ 8))) ∧ Below w.heap.size w w' := by
  obtain ⟨z, hz⟩ : ∃ z, z = kindAtt k a := ⟨_, rfl⟩
  rw [← hz]
  have hg : groupOk 1 k a 1 = z := by rw [hz]; unfold groupOk kindAtt; rw [Bool.eq_iff_iff]; simp <;> omega
  have H := fun w => l4Group_any 1 k a 1 w
  rw [hg] at H
  have H' := Lib.hid H
  clear H hg hz
  cases z
  all_goals
    go_enter Try.func48, Try.ntmps48
    go_wp2_with (first | (go_at_call 79; refine (H'.out _).mono ?_; rintro e w1 ⟨rfl, hb1⟩) | (go_at_call 49; refine (l1In_any _ _ _ _).mono ?_; rintro e w' ⟨rfl, rfl⟩) | fail)
    all_goals go_ret
    all_goals exact ⟨ret_bool (by simp), by (repeat (first | exact Below.refl _ _ | assumption | refine Below_al ?_ _ | refine Below.drew ?_ | refine Below_then ?_ (by assumption) | refine Below.setCell ?_ (by first | omega | (simp; done) | (simp; omega)) _))⟩
end Go.Proofs.Ytgnfgkkepninpaa
