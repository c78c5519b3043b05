/- Contracts of the lines: offsets, periods, turns. -/
import Derived.Test.YthlemcoimoibmaaDoorHead
namespace Go.Proofs.YthlemcoimoibmaaDoor
open Go.ChangeShapes Go.WideShapes Go.ChangeAt Go.RowKit

/-- A fresh slice that is a block of its own, whole. -/
def FreshInts (w : World) (xs : List Int) (e : Ending) (w' : World) : Prop :=
  ∃ g, e = .returned (.slice (some ⟨g, 0, none⟩) xs.length xs.length) ∧ w.heap.size ≤ g ∧ w'.heap[g]? = some (.cells (ints xs) 3 (0, 0)) ∧ Below w.heap.size w w'

theorem isLine_any (line : Int) (w : World) :
    Calls Tryd.prog 60 #[.int .i64 line] w fun e w' => e = .returned (.bool (decide (0 ≤ line ∧ line ≤ 4))) ∧ w = w' := by
  go_enter Tryd.func60, Tryd.ntmps60
  go_wp2_with (go_at_call 59; refine (inside_any _ _ _ _).mono ?_; rintro e w' ⟨rfl, rfl⟩)
  go_ret
  exact ⟨by first | rfl | simp, rfl⟩
theorem l3Line_any (line : Int) (w : World) :
    Calls Tryd.prog 42 #[.int .i64 line] w fun e w' => e = .returned (.bool (decide (0 ≤ line ∧ line ≤ 4))) ∧ w = w' := by
  go_enter Tryd.func42, Tryd.ntmps42
  go_wp2_with (go_at_call 19; refine (l1In_any _ _ _ _).mono ?_; rintro e w' ⟨rfl, rfl⟩)
  go_ret
  exact ⟨by first | rfl | simp, rfl⟩
end Go.Proofs.YthlemcoimoibmaaDoor
