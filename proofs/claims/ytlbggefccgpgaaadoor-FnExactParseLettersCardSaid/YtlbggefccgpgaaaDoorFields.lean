/- Contracts: which tinctures, fields, groups and arms are valid. -/
import Derived.Test.YtlbggefccgpgaaaDoorParts
import Derived.Laws.StructEq
namespace Go.Proofs.YtlbggefccgpgaaaDoor
open Go.ChangeShapes Go.WideShapes Go.ChangeAt Go.RowKit

def fieldOk (d l p q : Int) : Bool := decide ((0 ≤ d ∧ d ≤ 7) ∧ (0 ≤ l ∧ l ≤ 4) ∧ (1 ≤ p ∧ p ≤ 9) ∧ (d = 0 ∧ l = 0 ∧ q = 0 ∨ d ≠ 0 ∧ (1 ≤ q ∧ q ≤ 9) ∧ q ≠ p))
theorem IsTincture_any (x : Int) (w : World) :
    Calls Tryd.prog 35 #[.int .i64 x] w fun e w' => e = .returned (.bool (decide (1 ≤ x ∧ x ≤ 9))) ∧ w = w' := by
  go_enter Tryd.func35, Tryd.ntmps35
  go_wp2_with (first | (go_at_call 44; refine (inside_any _ _ _ _).mono ?_; rintro e w' ⟨rfl, rfl⟩) | fail)
  go_ret
  exact ⟨by first | rfl | simp, rfl⟩
theorem l2Good_any (x : Int) (w : World) :
    Calls Tryd.prog 32 #[.int .i64 x] w fun e w' => e = .returned (.bool (decide (1 ≤ x ∧ x ≤ 9))) ∧ w = w' := by
  go_enter Tryd.func32, Tryd.ntmps32
  go_wp2_with (first | (go_at_call 28; refine (l1In_any _ _ _ _).mono ?_; rintro e w' ⟨rfl, rfl⟩) | fail)
  go_ret
  exact ⟨by first | rfl | simp, rfl⟩

def groupOk (c k a t : Int) : Bool := decide ((1 ≤ c ∧ c ≤ 6) ∧ (1 ≤ k ∧ k ≤ 8) ∧ (1 ≤ t ∧ t ≤ 9) ∧ (k ≤ 3 ∧ 1 ≤ a ∧ a ≤ 2 ∨ 3 < k ∧ a = 0))
def groupNone (c k a t : Int) : Bool := decide (c = 0 ∧ k = 0 ∧ a = 0 ∧ t = 0)
end Go.Proofs.YtlbggefccgpgaaaDoor
