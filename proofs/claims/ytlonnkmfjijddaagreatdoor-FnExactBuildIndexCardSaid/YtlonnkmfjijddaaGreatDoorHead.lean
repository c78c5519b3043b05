/- Contracts of the small helpers: bounds, cells of the shield. -/
import Derived.Test.YtlonnkmfjijddaaGreatDoorRows
import Derived.Test.YtlonnkmfjijddaaGreatDoorMem
import Derived.Outline
import Derived.Deep.RegionHeld3
import Derived.Deep.LoopGhost
import Derived.Deep.DeepCutAuto
import Derived.Deep.QuietTactic
import Derived.BigQuiet
import Derived.WalkLawsBesides
import Derived.WalkSpells
namespace Go.Proofs.YtlonnkmfjijddaaGreatDoor
open Go.ChangeShapes Go.WideShapes Go.ChangeAt Go.RowKit

theorem own : ownKnob Tryz.prog.godebug = none := by kernel_rfl
theorem info_int : (Tryz.prog.info? 3).map (fun i => (i.zero, i.size, i.bytes)) = some (some (.int .i64 0), 1, 8) := by kernel_rfl
theorem inside_any (n low high : Int) (w : World) :
    Calls Tryz.prog 37 #[.int .i64 n, .int .i64 low, .int .i64 high] w fun e w' => e = .returned (.bool (decide (low ≤ n ∧ n ≤ high))) ∧ w = w' := by
  go_enter Tryz.func37, Tryz.ntmps37
  go_wp2
  · go_ret; exact ⟨by simp [*], rfl⟩
  · go_ret; exact ⟨by simp [*]; omega, rfl⟩
theorem l1In_any (n low high : Int) (w : World) :
    Calls Tryz.prog 50 #[.int .i64 n, .int .i64 low, .int .i64 high] w fun e w' => e = .returned (.bool (decide (low ≤ n ∧ n ≤ high))) ∧ w = w' := by
  go_enter Tryz.func50, Tryz.ntmps50
  go_wp2
  · go_ret; exact ⟨by simp [*], rfl⟩
  · go_ret; exact ⟨by simp [*]; omega, rfl⟩
end Go.Proofs.YtlonnkmfjijddaaGreatDoor
