/- Contracts: conflicts; ArmsDifferences, Conflict, both sides. -/
import Derived.Test.YtlonnkmfjijddaaGreatDoorDiff2
namespace Go.Proofs.YtlonnkmfjijddaaGreatDoor
open Go.ChangeShapes Go.WideShapes Go.ChangeAt Go.RowKit
set_option linter.unusedVariables false
def confl (a b : ArmsD) : Bool := decide (df a b < 2)
theorem conflict_any (a b : ArmsD) (w : World) (ga : armsOk a = true) (gb : armsOk b = true) :
    Calls Tryz.prog 42 #[.agg #[.int .i64 a.d, .int .i64 a.l, .int .i64 a.p, .int .i64 a.q, .int .i64 a.o, .int .i64 a.li, .int .i64 a.t, .int .i64 a.c1, .int .i64 a.k1, .int .i64 a.a1, .int .i64 a.t1, .int .i64 a.c2, .int .i64 a.k2, .int .i64 a.a2, .int .i64 a.t2], .agg #[.int .i64 b.d, .int .i64 b.l, .int .i64 b.p, .int .i64 b.q, .int .i64 b.o, .int .i64 b.li, .int .i64 b.t, .int .i64 b.c1, .int .i64 b.k1, .int .i64 b.a1, .int .i64 b.t1, .int .i64 b.c2, .int .i64 b.k2, .int .i64 b.a2, .int .i64 b.t2]] w fun e w' => e = .returned (.bool (confl a b)) ∧ Below w.heap.size w w' := by
  have K := fun w => differences_any a b w ga gb
  have bd := df_bd a b
  unfold confl
  generalize df a b = x at *
  have K' := Lib.hid K
  clear K ga gb
  go_enter Tryz.func42, Tryz.ntmps42
  go_wp2_with (first | (go_at_call 60; refine (K'.out _).mono ?_; rintro e w1 ⟨rfl, hb1⟩) | fail)
  go_ret
  exact ⟨rfl, by (repeat (first | exact Below.refl _ _ | assumption | refine Below_al ?_ _ | refine Below.drew ?_ | refine Below_then ?_ (by assumption) | refine Below.setCell ?_ (by first | omega | (simp; done) | (simp; omega)) _))⟩
theorem l15Conflict_any (a b : ArmsD) (w : World) (ga : armsOk a = true) (gb : armsOk b = true) :
    Calls Tryz.prog 32 #[.agg #[.int .i64 a.d, .int .i64 a.l, .int .i64 a.p, .int .i64 a.q, .int .i64 a.o, .int .i64 a.li, .int .i64 a.t, .int .i64 a.c1, .int .i64 a.k1, .int .i64 a.a1, .int .i64 a.t1, .int .i64 a.c2, .int .i64 a.k2, .int .i64 a.a2, .int .i64 a.t2], .agg #[.int .i64 b.d, .int .i64 b.l, .int .i64 b.p, .int .i64 b.q, .int .i64 b.o, .int .i64 b.li, .int .i64 b.t, .int .i64 b.c1, .int .i64 b.k1, .int .i64 b.a1, .int .i64 b.t1, .int .i64 b.c2, .int .i64 b.k2, .int .i64 b.a2, .int .i64 b.t2]] w fun e w' => e = .returned (.bool (confl a b)) ∧ Below w.heap.size w w' := by
  have K := fun w => l15Count_any a b w ga gb
  have bd := df_bd a b
  unfold confl
  generalize df a b = x at *
  have K' := Lib.hid K
  clear K ga gb
  go_enter Tryz.func32, Tryz.ntmps32
  go_wp2_with (first | (go_at_call 53; refine (K'.out _).mono ?_; rintro e w1 ⟨rfl, hb1⟩) | fail)
  go_ret
  exact ⟨rfl, by (repeat (first | exact Below.refl _ _ | assumption | refine Below_al ?_ _ | refine Below.drew ?_ | refine Below_then ?_ (by assumption) | refine Below.setCell ?_ (by first | omega | (simp; done) | (simp; omega)) _))⟩
end Go.Proofs.YtlonnkmfjijddaaGreatDoor
