/- Contracts: ShapeCell, ShapeCells, both sides. -/
import Derived.Test.YtgnfgkkepninpaaShape
namespace Go.Proofs.Ytgnfgkkepninpaa
open Go.ChangeShapes Go.WideShapes Go.ChangeAt Go.RowKit
set_option linter.unusedVariables false
def cellOk (k a n u v : Int) : Bool := kindAtt k a && decide (1 ≤ n ∧ n ≤ 8) && decide (0 ≤ u ∧ u ≤ n - 1) && decide (0 ≤ v ∧ v ≤ n - 1)
def cellV (k a n u v : Int) : Bool := cellOk k a n u v && shapeF k a n u v
theorem kindAtt_bd {k a : Int} (h : kindAtt k a = true) : 1 ≤ k ∧ k ≤ 8 := by
  simp [kindAtt] at h
  omega
theorem ShapeCell_any (k a n u v : Int) (hw : (Lit.int .i64 n).wf = true) (w : World) :
    Calls Try.prog 16 #[.int .i64 k, .int .i64 a, .int .i64 n, .int .i64 u, .int .i64 v] w fun e w' => e = .returned (.tuple #[.bool (cellV k a n u v), .bool (cellOk k a n u v)]) ∧ Below w.heap.size w w' := by
  have H1 := fun w => hasAttitude_any k a w
  by_cases h1 : kindAtt k a = true
  · obtain ⟨hk1, hk8⟩ := kindAtt_bd h1
    rw [h1] at H1
    by_cases h2 : 1 ≤ n ∧ n ≤ 8
    · obtain ⟨n1, n8⟩ := h2
      by_cases h3 : (0 ≤ u ∧ u ≤ n - 1) ∧ (0 ≤ v ∧ v ≤ n - 1)
      · have hb : cellOk k a n u v = true := by simp [cellOk, h1]; omega
        have hv : cellV k a n u v = shapeF k a n u v := by simp [cellV, hb]
        rw [hb, hv]
        obtain ⟨⟨a1, a2⟩, ⟨a3, a4⟩⟩ := h3
        have H1' := Lib.hid H1
        clear H1 h1 hb hv
        go_enter Try.func16, Try.ntmps16
        go_wp2_with (first | (go_at_call 51; refine (H1'.out _).mono ?_; rintro e w1 ⟨rfl, hb1⟩) | (go_at_call 45; refine (inside_any _ _ _ _).mono ?_; rintro e w' ⟨rfl, rfl⟩) | (go_at_call 52; refine (shape_any _ _ _ _ _ _ ⟨by omega, by omega⟩ ⟨by omega, by omega⟩ ⟨by omega, by omega⟩ ⟨by omega, by omega⟩).mono ?_; rintro e w' ⟨rfl, rfl⟩) | fail)
        go_ret2
        exact ⟨rfl, by (repeat (first | exact Below.refl _ _ | assumption | refine Below_al ?_ _ | refine Below.drew ?_ | refine Below_then ?_ (by assumption) | refine Below.setCell ?_ (by first | omega | (simp; done) | (simp; omega)) _))⟩
      · have hb : cellOk k a n u v = false := by simp [cellOk, h1]; omega
        have hv : cellV k a n u v = false := by simp [cellV, hb]
        rw [hb, hv]
        have H1' := Lib.hid H1
        clear H1 h1 hb hv
        by_cases hu : 0 ≤ u ∧ u ≤ n - 1
        · have d1 : decide (0 ≤ u ∧ u ≤ n - 1) = true := by simpa using hu
          have d2 : decide (0 ≤ v ∧ v ≤ n - 1) = false := by simp; omega
          clear h3 hu
          go_enter Try.func16, Try.ntmps16
          go_wp2_with (first | (go_at_call 51; refine (H1'.out _).mono ?_; rintro e w1 ⟨rfl, hb1⟩) | (go_at_call 45; refine (inside_any _ _ _ _).mono ?_; rintro e w' ⟨rfl, rfl⟩) | fail)
          go_ret2
          exact ⟨rfl, by (repeat (first | exact Below.refl _ _ | assumption | refine Below_al ?_ _ | refine Below.drew ?_ | refine Below_then ?_ (by assumption) | refine Below.setCell ?_ (by first | omega | (simp; done) | (simp; omega)) _))⟩
        · have d1 : decide (0 ≤ u ∧ u ≤ n - 1) = false := by simpa using hu
          clear h3 hu
          go_enter Try.func16, Try.ntmps16
          go_wp2_with (first | (go_at_call 51; refine (H1'.out _).mono ?_; rintro e w1 ⟨rfl, hb1⟩) | (go_at_call 45; refine (inside_any _ _ _ _).mono ?_; rintro e w' ⟨rfl, rfl⟩) | fail)
          go_ret2
          exact ⟨rfl, by (repeat (first | exact Below.refl _ _ | assumption | refine Below_al ?_ _ | refine Below.drew ?_ | refine Below_then ?_ (by assumption) | refine Below.setCell ?_ (by first | omega | (simp; done) | (simp; omega)) _))⟩
    · have hb : cellOk k a n u v = false := by simp [cellOk, h1, h2]
      have hv : cellV k a n u v = false := by simp [cellV, hb]
      rw [hb, hv]
      have H1' := Lib.hid H1
      clear H1 h1 hb hv
      go_enter Try.func16, Try.ntmps16
      go_wp2_with (first | (go_at_call 51; refine (H1'.out _).mono ?_; rintro e w1 ⟨rfl, hb1⟩) | (go_at_call 45; refine (inside_any _ _ _ _).mono ?_; rintro e w' ⟨rfl, rfl⟩) | fail)
      all_goals go_ret2
      all_goals exact ⟨rfl, by (repeat (first | exact Below.refl _ _ | assumption | refine Below_al ?_ _ | refine Below.drew ?_ | refine Below_then ?_ (by assumption) | refine Below.setCell ?_ (by first | omega | (simp; done) | (simp; omega)) _))⟩
  · have h1' : kindAtt k a = false := by simpa using h1
    have hb : cellOk k a n u v = false := by simp [cellOk, h1']
    have hv : cellV k a n u v = false := by simp [cellV, hb]
    rw [hb, hv]
    rw [h1'] at H1
    have H1' := Lib.hid H1
    clear H1 h1 h1' hb hv
    go_enter Try.func16, Try.ntmps16
    go_wp2_with (first | (go_at_call 51; refine (H1'.out _).mono ?_; rintro e w1 ⟨rfl, hb1⟩) | fail)
    go_ret2
    exact ⟨rfl, by (repeat (first | exact Below.refl _ _ | assumption | refine Below_al ?_ _ | refine Below.drew ?_ | refine Below_then ?_ (by assumption) | refine Below.setCell ?_ (by first | omega | (simp; done) | (simp; omega)) _))⟩
theorem specShapeCell_any (k a n u v : Int) (hw : (Lit.int .i64 n).wf = true) (w : World) :
    Calls Try.prog 15 #[.int .i64 k, .int .i64 a, .int .i64 n, .int .i64 u, .int .i64 v] w fun e w' => e = .returned (.tuple #[.bool (cellV k a n u v), .bool (cellOk k a n u v)]) ∧ Below w.heap.size w w' := by
  have H1 := fun w => l12Shape_any k a n w
  by_cases h1 : (kindAtt k a && decide (1 ≤ n ∧ n ≤ 8)) = true
  · rw [h1] at H1
    have h1c := h1
    rw [Bool.and_eq_true, decide_eq_true_iff] at h1c
    obtain ⟨hka, n1, n8⟩ := h1c
    obtain ⟨hk1, hk8⟩ := kindAtt_bd hka
    by_cases h3 : (0 ≤ u ∧ u ≤ n - 1) ∧ (0 ≤ v ∧ v ≤ n - 1)
    · have hb : cellOk k a n u v = true := by simp [cellOk, hka]; omega
      have hv : cellV k a n u v = shapeF k a n u v := by simp [cellV, hb]
      rw [hb, hv]
      obtain ⟨⟨a1, a2⟩, ⟨a3, a4⟩⟩ := h3
      have H1' := Lib.hid H1
      clear H1 h1 hb hv hka
      go_enter Try.func15, Try.ntmps15
      go_wp2_with (first | (go_at_call 48; refine (H1'.out _).mono ?_; rintro e w1 ⟨rfl, hb1⟩) | (go_at_call 49; refine (l1In_any _ _ _ _).mono ?_; rintro e w' ⟨rfl, rfl⟩) | (go_at_call 50; refine (l12Cell_any _ _ _ _ _ _ ⟨by omega, by omega⟩ ⟨by omega, by omega⟩ ⟨by omega, by omega⟩ ⟨by omega, by omega⟩).mono ?_; rintro e w' ⟨rfl, rfl⟩) | fail)
      go_ret2
      exact ⟨rfl, by (repeat (first | exact Below.refl _ _ | assumption | refine Below_al ?_ _ | refine Below.drew ?_ | refine Below_then ?_ (by assumption) | refine Below.setCell ?_ (by first | omega | (simp; done) | (simp; omega)) _))⟩
    · have hb : cellOk k a n u v = false := by simp [cellOk, hka]; omega
      have hv : cellV k a n u v = false := by simp [cellV, hb]
      rw [hb, hv]
      have H1' := Lib.hid H1
      clear H1 h1 hb hv hka
      by_cases hu : 0 ≤ u ∧ u ≤ n - 1
      · have d1 : decide (0 ≤ u ∧ u ≤ n - 1) = true := by simpa using hu
        have d2 : decide (0 ≤ v ∧ v ≤ n - 1) = false := by simp; omega
        clear h3 hu
        go_enter Try.func15, Try.ntmps15
        go_wp2_with (first | (go_at_call 48; refine (H1'.out _).mono ?_; rintro e w1 ⟨rfl, hb1⟩) | (go_at_call 49; refine (l1In_any _ _ _ _).mono ?_; rintro e w' ⟨rfl, rfl⟩) | fail)
        go_ret2
        exact ⟨rfl, by (repeat (first | exact Below.refl _ _ | assumption | refine Below_al ?_ _ | refine Below.drew ?_ | refine Below_then ?_ (by assumption) | refine Below.setCell ?_ (by first | omega | (simp; done) | (simp; omega)) _))⟩
      · have d1 : decide (0 ≤ u ∧ u ≤ n - 1) = false := by simpa using hu
        clear h3 hu
        go_enter Try.func15, Try.ntmps15
        go_wp2_with (first | (go_at_call 48; refine (H1'.out _).mono ?_; rintro e w1 ⟨rfl, hb1⟩) | (go_at_call 49; refine (l1In_any _ _ _ _).mono ?_; rintro e w' ⟨rfl, rfl⟩) | fail)
        go_ret2
        exact ⟨rfl, by (repeat (first | exact Below.refl _ _ | assumption | refine Below_al ?_ _ | refine Below.drew ?_ | refine Below_then ?_ (by assumption) | refine Below.setCell ?_ (by first | omega | (simp; done) | (simp; omega)) _))⟩
  · have h1' : (kindAtt k a && decide (1 ≤ n ∧ n ≤ 8)) = false := by simpa using h1
    have hb : cellOk k a n u v = false := by simp only [cellOk, h1', Bool.false_and]
    have hv : cellV k a n u v = false := by simp only [cellV, hb, Bool.false_and]
    rw [hb, hv]
    rw [h1'] at H1
    have H1' := Lib.hid H1
    clear H1 h1 h1' hb hv
    go_enter Try.func15, Try.ntmps15
    go_wp2_with (first | (go_at_call 48; refine (H1'.out _).mono ?_; rintro e w1 ⟨rfl, hb1⟩) | fail)
    go_ret2
    exact ⟨rfl, by (repeat (first | exact Below.refl _ _ | assumption | refine Below_al ?_ _ | refine Below.drew ?_ | refine Below_then ?_ (by assumption) | refine Below.setCell ?_ (by first | omega | (simp; done) | (simp; omega)) _))⟩
end Go.Proofs.Ytgnfgkkepninpaa
