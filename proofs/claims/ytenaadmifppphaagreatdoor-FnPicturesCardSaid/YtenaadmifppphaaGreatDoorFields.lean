/- Contracts: which tinctures, fields, groups and arms are valid. -/
import Derived.Test.YtenaadmifppphaaGreatDoorParts
import Derived.Laws.StructEq
namespace Go.Proofs.YtenaadmifppphaaGreatDoor
open Go.ChangeShapes Go.WideShapes Go.ChangeAt Go.RowKit

def fieldOk (d l p q : Int) : Bool := decide ((0 ≤ d ∧ d ≤ 7) ∧ (0 ≤ l ∧ l ≤ 4) ∧ (1 ≤ p ∧ p ≤ 9) ∧ (d = 0 ∧ l = 0 ∧ q = 0 ∨ d ≠ 0 ∧ (1 ≤ q ∧ q ≤ 9) ∧ q ≠ p))
theorem IsTincture_any (x : Int) (w : World) :
    Calls Tryz.prog 25 #[.int .i64 x] w fun e w' => e = .returned (.bool (decide (1 ≤ x ∧ x ≤ 9))) ∧ w = w' := by
  go_enter Tryz.func25, Tryz.ntmps25
  go_wp2_with (first | (go_at_call 42; refine (inside_any _ _ _ _).mono ?_; rintro e w' ⟨rfl, rfl⟩) | fail)
  go_ret
  exact ⟨by first | rfl | simp, rfl⟩
theorem l2Good_any (x : Int) (w : World) :
    Calls Tryz.prog 40 #[.int .i64 x] w fun e w' => e = .returned (.bool (decide (1 ≤ x ∧ x ≤ 9))) ∧ w = w' := by
  go_enter Tryz.func40, Tryz.ntmps40
  go_wp2_with (first | (go_at_call 52; refine (l1In_any _ _ _ _).mono ?_; rintro e w' ⟨rfl, rfl⟩) | fail)
  go_ret
  exact ⟨by first | rfl | simp, rfl⟩
theorem l3Good_any (d l p q : Int) (w : World) :
    Calls Tryz.prog 62 #[.agg #[.int .i64 d, .int .i64 l, .int .i64 p, .int .i64 q]] w fun e w' => e = .returned (.bool (fieldOk d l p q)) ∧ Below w.heap.size w w' := by
  go_enter Tryz.func62, Tryz.ntmps62
  go_wp2_with (first | (go_at_call 42; refine (inside_any _ _ _ _).mono ?_; rintro e w' ⟨rfl, rfl⟩) | (go_at_call 25; refine (IsTincture_any _ _).mono ?_; rintro e w' ⟨rfl, rfl⟩) | (go_at_call 52; refine (l1In_any _ _ _ _).mono ?_; rintro e w' ⟨rfl, rfl⟩) | (go_at_call 75; refine (l3Line_any _ _).mono ?_; rintro e w' ⟨rfl, rfl⟩) | (go_at_call 40; refine (l2Good_any _ _).mono ?_; rintro e w' ⟨rfl, rfl⟩) | fail)
  all_goals go_ret
  all_goals refine ⟨ret_bool ?_, ?_⟩
  all_goals first | ((repeat (first | exact Below.refl _ _ | assumption | refine Below_al ?_ _ | refine Below.drew ?_ | refine Below_then ?_ (by assumption) | refine Below.setCell ?_ (by first | omega | (simp; done) | (simp; omega)) _)); done) | (first | rfl | (simp [fieldOk]; done) | (simp [fieldOk]; omega) | (simp_all [fieldOk]; done) | (simp_all [fieldOk]; omega) | (rw [Bool.eq_iff_iff]; simp [fieldOk]; omega) | (rw [Bool.eq_iff_iff]; simp_all [fieldOk]; omega) | (rw [Bool.eq_iff_iff]; simp [fieldOk] at *; omega))

def groupOk (c k a t : Int) : Bool := decide ((1 ≤ c ∧ c ≤ 6) ∧ (1 ≤ k ∧ k ≤ 8) ∧ (1 ≤ t ∧ t ≤ 9) ∧ (k ≤ 3 ∧ 1 ≤ a ∧ a ≤ 2 ∨ 3 < k ∧ a = 0))
def groupNone (c k a t : Int) : Bool := decide (c = 0 ∧ k = 0 ∧ a = 0 ∧ t = 0)
end Go.Proofs.YtenaadmifppphaaGreatDoor
