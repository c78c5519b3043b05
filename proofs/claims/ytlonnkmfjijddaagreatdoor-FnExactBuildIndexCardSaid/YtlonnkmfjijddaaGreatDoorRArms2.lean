/- Contracts: slices of arms: equality, sizes, marks. -/
import Derived.Test.YtlonnkmfjijddaaGreatDoorRArms
namespace Go.Proofs.YtlonnkmfjijddaaGreatDoor
open Go.ChangeShapes Go.WideShapes Go.ChangeAt Go.RowKit
set_option linter.unusedVariables false
set_option linter.unusedSimpArgs false

theorem eqField_same (d l p q : Int) (w : World) :
    Calls Tryz.prog 95 #[.agg #[.int .i64 d, .int .i64 l, .int .i64 p, .int .i64 q], .agg #[.int .i64 d, .int .i64 l, .int .i64 p, .int .i64 q]] w fun e w' => e = .returned (.bool true) ∧ Below w.heap.size w w' := by
  go_enter Tryz.func95, Tryz.ntmps95
  go_wp2
  go_ret
  exact ⟨rfl, by (repeat (first | exact Below.refl _ _ | assumption | refine Below_al ?_ _ | refine Below.drew ?_ | refine Below_then ?_ (by assumption) | refine Below.setCell ?_ (by first | omega | (simp; done) | (simp; omega)) _))⟩
theorem eqGroup_same (d l p q : Int) (w : World) :
    Calls Tryz.prog 96 #[.agg #[.int .i64 d, .int .i64 l, .int .i64 p, .int .i64 q], .agg #[.int .i64 d, .int .i64 l, .int .i64 p, .int .i64 q]] w fun e w' => e = .returned (.bool true) ∧ Below w.heap.size w w' := by
  go_enter Tryz.func96, Tryz.ntmps96
  go_wp2
  go_ret
  exact ⟨rfl, by (repeat (first | exact Below.refl _ _ | assumption | refine Below_al ?_ _ | refine Below.drew ?_ | refine Below_then ?_ (by assumption) | refine Below.setCell ?_ (by first | omega | (simp; done) | (simp; omega)) _))⟩
set_option maxHeartbeats 4000000 in
theorem eqArms_same (a : ArmsD) (w : World) :
    Calls Tryz.prog 68 #[.agg #[.int .i64 a.d, .int .i64 a.l, .int .i64 a.p, .int .i64 a.q, .int .i64 a.o, .int .i64 a.li, .int .i64 a.t, .int .i64 a.c1, .int .i64 a.k1, .int .i64 a.a1, .int .i64 a.t1, .int .i64 a.c2, .int .i64 a.k2, .int .i64 a.a2, .int .i64 a.t2], .agg #[.int .i64 a.d, .int .i64 a.l, .int .i64 a.p, .int .i64 a.q, .int .i64 a.o, .int .i64 a.li, .int .i64 a.t, .int .i64 a.c1, .int .i64 a.k1, .int .i64 a.a1, .int .i64 a.t1, .int .i64 a.c2, .int .i64 a.k2, .int .i64 a.a2, .int .i64 a.t2]] w fun e w' => e = .returned (.bool true) ∧ Below w.heap.size w w' := by
  go_enter Tryz.func68, Tryz.ntmps68
  go_wp2_with (first | (go_at_call 95; refine (eqField_same _ _ _ _ _).mono ?_; rintro e w1 ⟨rfl, hb1⟩; obtain ⟨hc1, hf1⟩ := bcell hb1; have hz1 : w.heap.size + 1 < w1.heap.size := Nat.lt_of_lt_of_le (by first | assumption | simp) hb1.size; have hy1 : w.heap.size < w1.heap.size := Nat.lt_of_succ_lt hz1) | (go_at_call 96; refine (eqGroup_same _ _ _ _ _).mono ?_; rintro e w1 ⟨rfl, hb1⟩; obtain ⟨hc1, hf1⟩ := bcell hb1; have hz1 : w.heap.size + 1 < w1.heap.size := Nat.lt_of_lt_of_le (by first | assumption | simp) hb1.size; have hy1 : w.heap.size < w1.heap.size := Nat.lt_of_succ_lt hz1) | fail)
  go_ret
  exact ⟨rfl, by (repeat (first | exact Below.refl _ _ | assumption | refine Below_al ?_ _ | refine Below.drew ?_ | refine Below_then ?_ (by assumption) | refine Below.setCell ?_ (by first | omega | (simp; done) | (simp; omega)) _))⟩
theorem eqArmsC (a : ArmsD) (w : World) : Calls Tryz.prog 68 #[.agg (ac a).toArray, .agg (ac a).toArray] w fun e w' => e = .returned (.bool true) ∧ Below w.heap.size w w' := eqArms_same a w
theorem ac_cells {w : World} (a : ArmsD) (b o : Nat) (h : w.rangeAt b o (ac a)) : w.cell? ⟨b, o, none⟩ = some (.int .i64 a.d) ∧ w.cell? ⟨b, o + 1, none⟩ = some (.int .i64 a.l) ∧ w.cell? ⟨b, o + 2, none⟩ = some (.int .i64 a.p) ∧ w.cell? ⟨b, o + 3, none⟩ = some (.int .i64 a.q) ∧ w.cell? ⟨b, o + 4, none⟩ = some (.int .i64 a.o) ∧ w.cell? ⟨b, o + 5, none⟩ = some (.int .i64 a.li) ∧ w.cell? ⟨b, o + 6, none⟩ = some (.int .i64 a.t) ∧ w.cell? ⟨b, o + 7, none⟩ = some (.int .i64 a.c1) ∧ w.cell? ⟨b, o + 8, none⟩ = some (.int .i64 a.k1) ∧ w.cell? ⟨b, o + 9, none⟩ = some (.int .i64 a.a1) ∧ w.cell? ⟨b, o + 10, none⟩ = some (.int .i64 a.t1) ∧ w.cell? ⟨b, o + 11, none⟩ = some (.int .i64 a.c2) ∧ w.cell? ⟨b, o + 12, none⟩ = some (.int .i64 a.k2) ∧ w.cell? ⟨b, o + 13, none⟩ = some (.int .i64 a.a2) ∧ w.cell? ⟨b, o + 14, none⟩ = some (.int .i64 a.t2) :=
  ⟨h 0 _ rfl, h 1 _ rfl, h 2 _ rfl, h 3 _ rfl, h 4 _ rfl, h 5 _ rfl, h 6 _ rfl, h 7 _ rfl, h 8 _ rfl, h 9 _ rfl, h 10 _ rfl, h 11 _ rfl, h 12 _ rfl, h 13 _ rfl, h 14 _ rfl⟩
theorem heldRR {a w w' : World} {b o b' o' : Nat} {u u' : List Value} (h : w.rangeAt b o u ∧ w.rangeAt b' o' u' ∧ Below a.heap.size a w) (hb : Below w.heap.size w w') : w'.rangeAt b o u ∧ w'.rangeAt b' o' u' ∧ Below a.heap.size a w' :=
  ⟨rangeAt_below h.1 hb, rangeAt_below h.2.1 hb, Below_then h.2.2 hb⟩
end Go.Proofs.YtlonnkmfjijddaaGreatDoor
