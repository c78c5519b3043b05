/- Contracts: HatchByte, both sides. -/
import Derived.Test.YtclggongiobbfaaHatch
namespace Go.Proofs.Ytclggongiobbfaa
open Go.ChangeShapes Go.WideShapes Go.ChangeAt Go.RowKit
set_option linter.unusedVariables false
def hatchB (t x y : Int) : Bool := decide ((1 ≤ t ∧ t ≤ 9) ∧ (0 ≤ x ∧ x ≤ 19) ∧ (0 ≤ y ∧ y ≤ 23))
def hatchV (t x y : Int) : Int := bif hatchB t x y then hatchF t x y else 0
theorem HatchByte_any (t x y : Int) (w : World) :
    Calls Try.prog 16 #[.int .i64 t, .int .i64 x, .int .i64 y] w fun e w' => e = .returned (.tuple #[.int .u8 (hatchV t x y), .bool (hatchB t x y)]) ∧ Below w.heap.size w w' := by
  by_cases h1 : 1 ≤ t ∧ t ≤ 9
  · by_cases h2 : 0 ≤ x ∧ x ≤ 19
    · by_cases h3 : 0 ≤ y ∧ y ≤ 23
      · have hb : hatchB t x y = true := by simp only [hatchB, h1, h2, h3, and_self, decide_true]
        have hv : hatchV t x y = hatchF t x y := by simp only [hatchV, hb, cond_true]
        rw [hv, hb]
        clear hv hb
        obtain ⟨a1, a2⟩ := h1
        obtain ⟨a3, a4⟩ := h2
        obtain ⟨a5, a6⟩ := h3
        go_enter Try.func16, Try.ntmps16
        go_wp2_with (first | (go_at_call 43; refine (inside_any _ _ _ _).mono ?_; rintro e w' ⟨rfl, rfl⟩) | (go_at_call 49; refine (IsTincture_any _ _).mono ?_; rintro e w' ⟨rfl, rfl⟩) | (go_at_call 50; refine (hatch_any _ _ _ _ (by omega) (by omega) (by omega) (by omega) (by omega) (by omega)).mono ?_; rintro e w' ⟨rfl, rfl⟩) | fail)
        go_ret2
        exact ⟨rfl, by (repeat (first | exact Below.refl _ _ | assumption | refine Below_al ?_ _ | refine Below.drew ?_ | refine Below_then ?_ (by assumption) | refine Below.setCell ?_ (by first | omega | (simp; done) | (simp; omega)) _))⟩
      · have hb : hatchB t x y = false := by simp [hatchB]; omega
        have hv : hatchV t x y = 0 := by simp only [hatchV, hb, cond_false]
        rw [hv, hb]
        clear hv hb
        go_enter Try.func16, Try.ntmps16
        go_wp2_with (first | (go_at_call 43; refine (inside_any _ _ _ _).mono ?_; rintro e w' ⟨rfl, rfl⟩) | (go_at_call 49; refine (IsTincture_any _ _).mono ?_; rintro e w' ⟨rfl, rfl⟩) | (go_at_call 50; refine (hatch_any _ _ _ _ (by omega) (by omega) (by omega) (by omega) (by omega) (by omega)).mono ?_; rintro e w' ⟨rfl, rfl⟩) | fail)
        go_ret2
        exact ⟨rfl, by (repeat (first | exact Below.refl _ _ | assumption | refine Below_al ?_ _ | refine Below.drew ?_ | refine Below_then ?_ (by assumption) | refine Below.setCell ?_ (by first | omega | (simp; done) | (simp; omega)) _))⟩
    · have hb : hatchB t x y = false := by simp [hatchB]; omega
      have hv : hatchV t x y = 0 := by simp only [hatchV, hb, cond_false]
      rw [hv, hb]
      clear hv hb
      go_enter Try.func16, Try.ntmps16
      go_wp2_with (first | (go_at_call 43; refine (inside_any _ _ _ _).mono ?_; rintro e w' ⟨rfl, rfl⟩) | (go_at_call 49; refine (IsTincture_any _ _).mono ?_; rintro e w' ⟨rfl, rfl⟩) | (go_at_call 50; refine (hatch_any _ _ _ _ (by omega) (by omega) (by omega) (by omega) (by omega) (by omega)).mono ?_; rintro e w' ⟨rfl, rfl⟩) | fail)
      go_ret2
      exact ⟨rfl, by (repeat (first | exact Below.refl _ _ | assumption | refine Below_al ?_ _ | refine Below.drew ?_ | refine Below_then ?_ (by assumption) | refine Below.setCell ?_ (by first | omega | (simp; done) | (simp; omega)) _))⟩
  · have hb : hatchB t x y = false := by simp [hatchB]; omega
    have hv : hatchV t x y = 0 := by simp only [hatchV, hb, cond_false]
    rw [hv, hb]
    clear hv hb
    go_enter Try.func16, Try.ntmps16
    go_wp2_with (first | (go_at_call 43; refine (inside_any _ _ _ _).mono ?_; rintro e w' ⟨rfl, rfl⟩) | (go_at_call 49; refine (IsTincture_any _ _).mono ?_; rintro e w' ⟨rfl, rfl⟩) | (go_at_call 50; refine (hatch_any _ _ _ _ (by omega) (by omega) (by omega) (by omega) (by omega) (by omega)).mono ?_; rintro e w' ⟨rfl, rfl⟩) | fail)
    go_ret2
    exact ⟨rfl, by (repeat (first | exact Below.refl _ _ | assumption | refine Below_al ?_ _ | refine Below.drew ?_ | refine Below_then ?_ (by assumption) | refine Below.setCell ?_ (by first | omega | (simp; done) | (simp; omega)) _))⟩
theorem specHatchByte_any (t x y : Int) (w : World) :
    Calls Try.prog 15 #[.int .i64 t, .int .i64 x, .int .i64 y] w fun e w' => e = .returned (.tuple #[.int .u8 (hatchV t x y), .bool (hatchB t x y)]) ∧ Below w.heap.size w w' := by
  by_cases h1 : 1 ≤ t ∧ t ≤ 9
  · by_cases h2 : 0 ≤ x ∧ x ≤ 19
    · by_cases h3 : 0 ≤ y ∧ y ≤ 23
      · have hb : hatchB t x y = true := by simp only [hatchB, h1, h2, h3, and_self, decide_true]
        have hv : hatchV t x y = hatchF t x y := by simp only [hatchV, hb, cond_true]
        rw [hv, hb]
        clear hv hb
        obtain ⟨a1, a2⟩ := h1
        obtain ⟨a3, a4⟩ := h2
        obtain ⟨a5, a6⟩ := h3
        go_enter Try.func15, Try.ntmps15
        go_wp2_with (first | (go_at_call 47; refine (l1In_any _ _ _ _).mono ?_; rintro e w' ⟨rfl, rfl⟩) | (go_at_call 46; refine (l2Good_any _ _).mono ?_; rintro e w' ⟨rfl, rfl⟩) | (go_at_call 48; refine (l13Sign_any _ _ _ _ (by omega) (by omega) (by omega) (by omega) (by omega) (by omega)).mono ?_; rintro e w' ⟨rfl, rfl⟩) | fail)
        go_ret2
        exact ⟨rfl, by (repeat (first | exact Below.refl _ _ | assumption | refine Below_al ?_ _ | refine Below.drew ?_ | refine Below_then ?_ (by assumption) | refine Below.setCell ?_ (by first | omega | (simp; done) | (simp; omega)) _))⟩
      · have hb : hatchB t x y = false := by simp [hatchB]; omega
        have hv : hatchV t x y = 0 := by simp only [hatchV, hb, cond_false]
        rw [hv, hb]
        clear hv hb
        go_enter Try.func15, Try.ntmps15
        go_wp2_with (first | (go_at_call 47; refine (l1In_any _ _ _ _).mono ?_; rintro e w' ⟨rfl, rfl⟩) | (go_at_call 46; refine (l2Good_any _ _).mono ?_; rintro e w' ⟨rfl, rfl⟩) | (go_at_call 48; refine (l13Sign_any _ _ _ _ (by omega) (by omega) (by omega) (by omega) (by omega) (by omega)).mono ?_; rintro e w' ⟨rfl, rfl⟩) | fail)
        go_ret2
        exact ⟨rfl, by (repeat (first | exact Below.refl _ _ | assumption | refine Below_al ?_ _ | refine Below.drew ?_ | refine Below_then ?_ (by assumption) | refine Below.setCell ?_ (by first | omega | (simp; done) | (simp; omega)) _))⟩
    · have hb : hatchB t x y = false := by simp [hatchB]; omega
      have hv : hatchV t x y = 0 := by simp only [hatchV, hb, cond_false]
      rw [hv, hb]
      clear hv hb
      go_enter Try.func15, Try.ntmps15
      go_wp2_with (first | (go_at_call 47; refine (l1In_any _ _ _ _).mono ?_; rintro e w' ⟨rfl, rfl⟩) | (go_at_call 46; refine (l2Good_any _ _).mono ?_; rintro e w' ⟨rfl, rfl⟩) | (go_at_call 48; refine (l13Sign_any _ _ _ _ (by omega) (by omega) (by omega) (by omega) (by omega) (by omega)).mono ?_; rintro e w' ⟨rfl, rfl⟩) | fail)
      go_ret2
      exact ⟨rfl, by (repeat (first | exact Below.refl _ _ | assumption | refine Below_al ?_ _ | refine Below.drew ?_ | refine Below_then ?_ (by assumption) | refine Below.setCell ?_ (by first | omega | (simp; done) | (simp; omega)) _))⟩
  · have hb : hatchB t x y = false := by simp [hatchB]; omega
    have hv : hatchV t x y = 0 := by simp only [hatchV, hb, cond_false]
    rw [hv, hb]
    clear hv hb
    go_enter Try.func15, Try.ntmps15
    go_wp2_with (first | (go_at_call 47; refine (l1In_any _ _ _ _).mono ?_; rintro e w' ⟨rfl, rfl⟩) | (go_at_call 46; refine (l2Good_any _ _).mono ?_; rintro e w' ⟨rfl, rfl⟩) | (go_at_call 48; refine (l13Sign_any _ _ _ _ (by omega) (by omega) (by omega) (by omega) (by omega) (by omega)).mono ?_; rintro e w' ⟨rfl, rfl⟩) | fail)
    go_ret2
    exact ⟨rfl, by (repeat (first | exact Below.refl _ _ | assumption | refine Below_al ?_ _ | refine Below.drew ?_ | refine Below_then ?_ (by assumption) | refine Below.setCell ?_ (by first | omega | (simp; done) | (simp; omega)) _))⟩
end Go.Proofs.Ytclggongiobbfaa
