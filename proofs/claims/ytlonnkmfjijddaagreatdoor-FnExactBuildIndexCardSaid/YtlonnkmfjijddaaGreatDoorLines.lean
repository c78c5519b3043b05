/- Contracts of the lines: offsets, periods, turns. -/
import Derived.Test.YtlonnkmfjijddaaGreatDoorHead
namespace Go.Proofs.YtlonnkmfjijddaaGreatDoor
open Go.ChangeShapes Go.WideShapes Go.ChangeAt Go.RowKit

/-- A fresh slice that is a block of its own, whole. -/
def FreshInts (w : World) (xs : List Int) (e : Ending) (w' : World) : Prop :=
  ∃ g, e = .returned (.slice (some ⟨g, 0, none⟩) xs.length xs.length) ∧ w.heap.size ≤ g ∧ w'.heap[g]? = some (.cells (ints xs) 3 (0, 0)) ∧ Below w.heap.size w w'

theorem isLine_any (line : Int) (w : World) :
    Calls Tryz.prog 77 #[.int .i64 line] w fun e w' => e = .returned (.bool (decide (0 ≤ line ∧ line ≤ 4))) ∧ w = w' := by
  go_enter Tryz.func77, Tryz.ntmps77
  go_wp2_with (go_at_call 37; refine (inside_any _ _ _ _).mono ?_; rintro e w' ⟨rfl, rfl⟩)
  go_ret
  exact ⟨by first | rfl | simp, rfl⟩
theorem l3Line_any (line : Int) (w : World) :
    Calls Tryz.prog 71 #[.int .i64 line] w fun e w' => e = .returned (.bool (decide (0 ≤ line ∧ line ≤ 4))) ∧ w = w' := by
  go_enter Tryz.func71, Tryz.ntmps71
  go_wp2_with (go_at_call 50; refine (l1In_any _ _ _ _).mono ?_; rintro e w' ⟨rfl, rfl⟩)
  go_ret
  exact ⟨by first | rfl | simp, rfl⟩
theorem number_any (b : Bool) (w : World) :
    Calls Tryz.prog 46 #[.bool b] w fun e w' => e = .returned (.int .i64 (numI b)) ∧ w = w' := by
  cases b
  all_goals
    go_enter Tryz.func46, Tryz.ntmps46
    go_wp2
    go_ret
    exact ⟨rfl, rfl⟩
end Go.Proofs.YtlonnkmfjijddaaGreatDoor
