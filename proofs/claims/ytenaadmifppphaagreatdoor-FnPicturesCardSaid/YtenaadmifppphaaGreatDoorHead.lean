/- Contracts of the small helpers: bounds, cells of the shield. -/
import Derived.Test.YtenaadmifppphaaGreatDoorRows
import Derived.Test.YtenaadmifppphaaGreatDoorMem
import Derived.Outline
import Derived.Deep.RegionHeld3
import Derived.Deep.LoopGhost
import Derived.Deep.DeepCutAuto
import Derived.Deep.QuietTactic
import Derived.BigQuiet
import Derived.WalkLawsBesides
import Derived.WalkSpells
namespace Go.Proofs.YtenaadmifppphaaGreatDoor
open Go.ChangeShapes Go.WideShapes Go.ChangeAt Go.RowKit

theorem own : ownKnob Tryz.prog.godebug = none := by kernel_rfl
theorem info_int : (Tryz.prog.info? 3).map (fun i => (i.zero, i.size, i.bytes)) = some (some (.int .i64 0), 1, 8) := by kernel_rfl
theorem inside_any (n low high : Int) (w : World) :
    Calls Tryz.prog 42 #[.int .i64 n, .int .i64 low, .int .i64 high] w fun e w' => e = .returned (.bool (decide (low ≤ n ∧ n ≤ high))) ∧ w = w' := by
  go_enter Tryz.func42, Tryz.ntmps42
  go_wp2
  · go_ret; exact ⟨by simp [*], rfl⟩
  · go_ret; exact ⟨by simp [*]; omega, rfl⟩
theorem l1In_any (n low high : Int) (w : World) :
    Calls Tryz.prog 52 #[.int .i64 n, .int .i64 low, .int .i64 high] w fun e w' => e = .returned (.bool (decide (low ≤ n ∧ n ≤ high))) ∧ w = w' := by
  go_enter Tryz.func52, Tryz.ntmps52
  go_wp2
  · go_ret; exact ⟨by simp [*], rfl⟩
  · go_ret; exact ⟨by simp [*]; omega, rfl⟩
theorem l9In_any (x y : Int) (w : World) :
    Calls Tryz.prog 39 #[.int .i64 x, .int .i64 y] w fun e w' => e = .returned (.bool (inSh x y)) ∧ w = w' := by
  by_cases h1 : 0 ≤ x ∧ x ≤ 19
  · by_cases h2 : 0 ≤ y ∧ y ≤ 23
    · have hs1 := sq_bd (2*x-19) (by omega) (by omega)
      have hs2 := sq_bd (2*y-23) (by omega) (by omega)
      have e1 : 576*(2*x-19)*(2*x-19) = 576*((2*x-19)*(2*x-19)) := by rw [Int.mul_assoc]
      have e2 : 400*(2*y-23)*(2*y-23) = 400*((2*y-23)*(2*y-23)) := by rw [Int.mul_assoc]
      have b1 : 0 ≤ 576*(2*x-19)*(2*x-19) := by omega
      have b2 : 576*(2*x-19)*(2*x-19) ≤ 1000000 := by omega
      have b3 : 0 ≤ 400*(2*y-23)*(2*y-23) := by omega
      have b4 : 400*(2*y-23)*(2*y-23) ≤ 1000000 := by omega
      clear e1 e2 hs1 hs2
      obtain ⟨h1a, h1b⟩ := h1
      obtain ⟨h2a, h2b⟩ := h2
      have hc : inCell x y = true := by simp [inCell]; omega
      have HC := Lib.hid hc
      clear hc
      go_enter Tryz.func39, Tryz.ntmps39
      go_wp2_with (go_at_call 52; refine (l1In_any _ _ _ _).mono ?_; rintro e w' ⟨rfl, rfl⟩)
      all_goals go_ret
      all_goals exact ⟨by simp [inSh, HC.out, inOval, *], rfl⟩
    · have hc : inCell x y = false := by simp [inCell]; omega
      have HC := Lib.hid hc
      clear hc
      go_enter Tryz.func39, Tryz.ntmps39
      go_wp2_with (go_at_call 52; refine (l1In_any _ _ _ _).mono ?_; rintro e w' ⟨rfl, rfl⟩)
      all_goals go_ret
      all_goals exact ⟨by simp [inSh, HC.out], rfl⟩
  · have hc : inCell x y = false := by simp [inCell]; omega
    have HC := Lib.hid hc
    clear hc
    go_enter Tryz.func39, Tryz.ntmps39
    go_wp2_with (go_at_call 52; refine (l1In_any _ _ _ _).mono ?_; rintro e w' ⟨rfl, rfl⟩)
    all_goals go_ret
    all_goals exact ⟨by simp [inSh, HC.out], rfl⟩
theorem InShield_any (x y : Int) (w : World) :
    Calls Tryz.prog 24 #[.int .i64 x, .int .i64 y] w fun e w' => e = .returned (.bool (inSh x y)) ∧ w = w' := by
  by_cases h1 : 0 ≤ x ∧ x ≤ 19
  · by_cases h2 : 0 ≤ y ∧ y ≤ 23
    · have hs1 := sq_bd (2*x-19) (by omega) (by omega)
      have hs2 := sq_bd (2*y-23) (by omega) (by omega)
      have e1 : 576*(2*x-19)*(2*x-19) = 576*((2*x-19)*(2*x-19)) := by rw [Int.mul_assoc]
      have e2 : 400*(2*y-23)*(2*y-23) = 400*((2*y-23)*(2*y-23)) := by rw [Int.mul_assoc]
      have b1 : 0 ≤ 576*(2*x-19)*(2*x-19) := by omega
      have b2 : 576*(2*x-19)*(2*x-19) ≤ 1000000 := by omega
      have b3 : 0 ≤ 400*(2*y-23)*(2*y-23) := by omega
      have b4 : 400*(2*y-23)*(2*y-23) ≤ 1000000 := by omega
      clear e1 e2 hs1 hs2
      obtain ⟨h1a, h1b⟩ := h1
      obtain ⟨h2a, h2b⟩ := h2
      have hc : inCell x y = true := by simp [inCell]; omega
      have HC := Lib.hid hc
      clear hc
      go_enter Tryz.func24, Tryz.ntmps24
      go_wp2_with (go_at_call 42; refine (inside_any _ _ _ _).mono ?_; rintro e w' ⟨rfl, rfl⟩)
      all_goals go_ret
      all_goals exact ⟨by simp [inSh, HC.out, inOval, *], rfl⟩
    · have hc : inCell x y = false := by simp [inCell]; omega
      have HC := Lib.hid hc
      clear hc
      go_enter Tryz.func24, Tryz.ntmps24
      go_wp2_with (go_at_call 42; refine (inside_any _ _ _ _).mono ?_; rintro e w' ⟨rfl, rfl⟩)
      all_goals go_ret
      all_goals exact ⟨by simp [inSh, HC.out], rfl⟩
  · have hc : inCell x y = false := by simp [inCell]; omega
    have HC := Lib.hid hc
    clear hc
    go_enter Tryz.func24, Tryz.ntmps24
    go_wp2_with (go_at_call 42; refine (inside_any _ _ _ _).mono ?_; rintro e w' ⟨rfl, rfl⟩)
    all_goals go_ret
    all_goals exact ⟨by simp [inSh, HC.out], rfl⟩
end Go.Proofs.YtenaadmifppphaaGreatDoor
