/- Contracts: the program's regions (the closures and their callers), and the reference's where they refuse. -/
import Derived.Test.YtenaadmifppphaaGreatDoorRegion3
import Derived.Test.YtenaadmifppphaaGreatDoorParts
namespace Go.Proofs.YtenaadmifppphaaGreatDoor
open Go.ChangeShapes Go.WideShapes Go.ChangeAt Go.RowKit

theorem specOrdinaryCells_no (o : Int) (w : World) (hn : ¬ ((0 ≤ o ∧ o ≤ 7))) : Calls Tryz.prog 48 #[.int .i64 o] w (RegOk w [] false) := by
  have g0 := hn
  clear hn
  go_enter Tryz.func48, Tryz.ntmps48
  go_wp2_with (first | (go_at_call 52; refine (l1In_any _ _ _ _).mono ?_; rintro e w' ⟨rfl, rfl⟩) | fail)
  all_goals exact bodyPost_ret (v := .tuple #[.agg #[.slice none 0 0], .bool false]) (by simp [results, Tryz.results48, go_sem]) rfl ⟨_, rfl, OwnI.nil _ _ _, by (repeat (first | exact Below.refl _ _ | assumption | refine Below_al ?_ _ | refine Below.drew ?_ | refine Below_then ?_ (by assumption) | refine Below.setCell ?_ (by first | omega | (simp; done) | (simp; omega)) _))⟩
end Go.Proofs.YtenaadmifppphaaGreatDoor
