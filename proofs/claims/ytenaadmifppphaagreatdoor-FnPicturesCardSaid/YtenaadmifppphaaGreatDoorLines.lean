/- Contracts of the lines: offsets, periods, turns. -/
import Derived.Test.YtenaadmifppphaaGreatDoorHead
namespace Go.Proofs.YtenaadmifppphaaGreatDoor
open Go.ChangeShapes Go.WideShapes Go.ChangeAt Go.RowKit

/-- A fresh slice that is a block of its own, whole. -/
def FreshInts (w : World) (xs : List Int) (e : Ending) (w' : World) : Prop :=
  ∃ g, e = .returned (.slice (some ⟨g, 0, none⟩) xs.length xs.length) ∧ w.heap.size ≤ g ∧ w'.heap[g]? = some (.cells (ints xs) 3 (0, 0)) ∧ Below w.heap.size w w'

set_option maxHeartbeats 2000000 in
theorem l10Offsets_any (line : Int) (h0 : 0 ≤ line) (h4 : line ≤ 4) (w : World) :
    Calls Tryz.prog 102 #[.int .i64 line] w (FreshInts w (offL line)) := by
  have hc : line = 0 ∨ line = 1 ∨ line = 2 ∨ line = 3 ∨ line = 4 := by omega
  clear h0 h4
  rcases hc with rfl | rfl | rfl | rfl | rfl
  all_goals
    first | rw [offL_0] | rw [offL_1] | rw [offL_2] | rw [offL_3] | rw [offL_4]
    go_enter Tryz.func102, Tryz.ntmps102
    go_wp2
    go_ret
    refine ⟨_, rfl, by omega, ?_, ?_⟩
    · (repeat (first | rw [heap_hit _ _ _ (by first | omega | (simp; done) | (simp; omega))] | rw [heap_miss _ _ _ (by first | omega | (simp; done) | (simp; omega))]))
      simp [ints]
    · (repeat (first | exact Below.refl _ _ | assumption | refine Below_al ?_ _ | refine Below.drew ?_ | refine Below_then ?_ (by assumption) | refine Below.setCell ?_ (by first | omega | (simp; done) | (simp; omega)) _))
theorem l10Offset_any (line t : Int) (h0 : 0 ≤ line) (h4 : line ≤ 4) (ht : 0 ≤ t) (w : World) :
    Calls Tryz.prog 98 #[.int .i64 line, .int .i64 t] w fun e w' => e = .returned (.int .i64 (offF line t)) ∧ Below w.heap.size w w' := by
  go_enter Tryz.func98, Tryz.ntmps98
  go_wp2_with fail
  refine (l10Offsets_any _ h0 h4 _).mono ?_
  rintro e w1 ⟨g, rfl, hg, hc, hb⟩
  have hp := offL_pos line
  have b1 := Int.emod_nonneg t (b := ((offL line).length : Int)) (by omega)
  have b2 := Int.emod_lt_of_pos t (b := ((offL line).length : Int)) (by omega)
  have c1 : w1.cell? ⟨g, (t % ((offL line).length : Int)).toNat, none⟩ = some (.int .i64 (offF line t)) := by
    rw [ints_cell hc _ (by omega)]
    unfold offF
    rw [List.getD_eq_getElem?_getD, List.getElem?_eq_getElem]; rfl
  go_wp2
  go_ret
  exact ⟨rfl, hb⟩
theorem l3Line_any (line : Int) (w : World) :
    Calls Tryz.prog 75 #[.int .i64 line] w fun e w' => e = .returned (.bool (decide (0 ≤ line ∧ line ≤ 4))) ∧ w = w' := by
  go_enter Tryz.func75, Tryz.ntmps75
  go_wp2_with (go_at_call 52; refine (l1In_any _ _ _ _).mono ?_; rintro e w' ⟨rfl, rfl⟩)
  go_ret
  exact ⟨by first | rfl | simp, rfl⟩
end Go.Proofs.YtenaadmifppphaaGreatDoor
