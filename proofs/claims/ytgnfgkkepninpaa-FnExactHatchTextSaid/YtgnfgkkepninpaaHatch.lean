/- Contracts: the hatching's signs. -/
import Derived.Test.YtgnfgkkepninpaaFields
import Derived.IntWalk
namespace Go.Proofs.Ytgnfgkkepninpaa
open Go.ChangeShapes Go.WideShapes Go.ChangeAt Go.RowKit
set_option linter.unusedVariables false
theorem bd (a b : Int) : (a == b) = decide (a = b) := rfl
def ei (b : Bool) (p q : Int) : Int := bif b then p else q
def hatchF (t x y : Int) : Int :=
  if t = 1 then ei (decide (x % 2 = 0) && decide (y % 2 = 0)) 46 32 else if t = 2 then 32 else if t = 3 then ei (decide (x % 2 = 0)) 124 32 else if t = 4 then ei (decide (y % 2 = 0)) 45 32
  else if t = 5 then ei (decide (x % 2 = 0) && decide (y % 2 = 0)) 43 (ei (decide (x % 2 = 0)) 124 (ei (decide (y % 2 = 0)) 45 32))
  else if t = 6 then ei (decide ((x - y).tmod 3 = 0)) 92 32 else if t = 7 then ei (decide ((x + y) % 3 = 0)) 47 32 else if t = 8 then ei (decide ((x + 2 * y) % 5 = 0)) 42 32 else ei (decide ((x + y) % 2 = 0)) 118 94
theorem either_any (b : Bool) (p q : Int) (w : World) :
    Calls Try.prog 89 #[.bool b, .int .u8 p, .int .u8 q] w fun e w' => e = .returned (.int .u8 (ei b p q)) ∧ w = w' := by
  cases b
  all_goals
    go_enter Try.func89, Try.ntmps89
    go_wp2
    go_ret
    exact ⟨rfl, rfl⟩
theorem hatch_any (t x y : Int) (w : World) (ht1 : 1 ≤ t) (ht9 : t ≤ 9) (hx0 : 0 ≤ x) (hx1 : x ≤ 19) (hy0 : 0 ≤ y) (hy1 : y ≤ 23) :
    Calls Try.prog 69 #[.int .i64 t, .int .i64 x, .int .i64 y] w fun e w' => e = .returned (.int .u8 (hatchF t x y)) ∧ w = w' := by
  obtain ⟨z, hz⟩ : ∃ z, z = hatchF t x y := ⟨_, rfl⟩
  rw [← hz]
  have hz := Lib.hid hz
  obtain rfl | rfl | rfl | rfl | rfl | rfl | rfl | rfl | rfl : t = 1 ∨ t = 2 ∨ t = 3 ∨ t = 4 ∨ t = 5 ∨ t = 6 ∨ t = 7 ∨ t = 8 ∨ t = 9 := by omega
  all_goals
    by_cases a : x % 2 = 0
    all_goals
      by_cases b : y % 2 = 0
      all_goals
        go_enter Try.func69, Try.ntmps69
        go_wp2_with (first | (go_at_call 89; refine (either_any _ _ _ _).mono ?_; rintro e w' ⟨rfl, rfl⟩) | fail)
        go_ret
        refine ⟨?_, rfl⟩
        rw [hz.out]
        simp [hatchF, bd, a, b]
theorem l13Sign_any (t x y : Int) (w : World) (ht1 : 1 ≤ t) (ht9 : t ≤ 9) (hx0 : 0 ≤ x) (hx1 : x ≤ 19) (hy0 : 0 ≤ y) (hy1 : y ≤ 23) :
    Calls Try.prog 68 #[.int .i64 t, .int .i64 x, .int .i64 y] w fun e w' => e = .returned (.int .u8 (hatchF t x y)) ∧ w = w' := by
  obtain ⟨z, hz⟩ : ∃ z, z = hatchF t x y := ⟨_, rfl⟩
  rw [← hz]
  have hz := Lib.hid hz
  obtain rfl | rfl | rfl | rfl | rfl | rfl | rfl | rfl | rfl : t = 1 ∨ t = 2 ∨ t = 3 ∨ t = 4 ∨ t = 5 ∨ t = 6 ∨ t = 7 ∨ t = 8 ∨ t = 9 := by omega
  all_goals
    by_cases a : x % 2 = 0
    all_goals
      by_cases b : y % 2 = 0
      all_goals
        go_enter Try.func68, Try.ntmps68
        go_wp2
        all_goals go_ret
        all_goals refine ⟨?_, rfl⟩
        all_goals rw [hz.out]
        all_goals simp_all [hatchF, ei, bd]
end Go.Proofs.Ytgnfgkkepninpaa
