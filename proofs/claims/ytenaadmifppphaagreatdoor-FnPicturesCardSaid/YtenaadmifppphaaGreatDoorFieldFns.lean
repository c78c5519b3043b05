/- Contracts of functions of a field and a cell. -/
import Derived.Test.YtenaadmifppphaaGreatDoorParts3
import Derived.Test.YtenaadmifppphaaGreatDoorFields
namespace Go.Proofs.YtenaadmifppphaaGreatDoor
open Go.ChangeShapes Go.WideShapes Go.ChangeAt Go.RowKit

theorem fieldOk_bd {d l p q : Int} (h : fieldOk d l p q = true) : (0 ≤ d ∧ d ≤ 7) ∧ (0 ≤ l ∧ l ≤ 4) ∧ (1 ≤ p ∧ p ≤ 9) ∧ (0 ≤ q ∧ q ≤ 9) := by
  have h' := of_decide_eq_true h
  omega
def tinF (d l p q x y : Int) : Int := if partF d l x y = 0 then p else q
theorem specFieldTincture_any (d l p q x y : Int) (w : World) :
    Calls Tryz.prog 76 #[.agg #[.int .i64 d, .int .i64 l, .int .i64 p, .int .i64 q], .int .i64 x, .int .i64 y] w fun e w' => e = .returned (.tuple #[.int .i64 (if fieldOk d l p q && inSh x y then tinF d l p q x y else 0), .bool (fieldOk d l p q && inSh x y)]) ∧ Below w.heap.size w w' := by
  cases h1 : fieldOk d l p q
  · rw [Bool.false_and]
    go_enter Tryz.func76, Tryz.ntmps76
    go_wp2_with (first | (go_at_call 62; refine (l3Good_any _ _ _ _ _).mono ?_; rintro e w1 ⟨rfl, hb1⟩; obtain ⟨hc1, hf1⟩ := bcell hb1; have hz1 : w.heap.size < w1.heap.size := Nat.lt_of_lt_of_le (by first | assumption | simp) hb1.size) | (go_at_call 24; refine (InShield_any _ _ _).mono ?_; rintro e w' ⟨rfl, rfl⟩) | (go_at_call 39; refine (l9In_any _ _ _).mono ?_; rintro e w' ⟨rfl, rfl⟩) | fail)
    all_goals go_ret2
    all_goals exact ⟨rfl, by (repeat (first | exact Below.refl _ _ | assumption | refine Below_al ?_ _ | refine Below.drew ?_ | refine Below_then ?_ (by assumption) | refine Below.setCell ?_ (by first | omega | (simp; done) | (simp; omega)) _))⟩
  · cases h2 : inSh x y
    · rw [Bool.and_false]
      go_enter Tryz.func76, Tryz.ntmps76
      go_wp2_with (first | (go_at_call 62; refine (l3Good_any _ _ _ _ _).mono ?_; rintro e w1 ⟨rfl, hb1⟩; obtain ⟨hc1, hf1⟩ := bcell hb1; have hz1 : w.heap.size < w1.heap.size := Nat.lt_of_lt_of_le (by first | assumption | simp) hb1.size) | (go_at_call 24; refine (InShield_any _ _ _).mono ?_; rintro e w' ⟨rfl, rfl⟩) | (go_at_call 39; refine (l9In_any _ _ _).mono ?_; rintro e w' ⟨rfl, rfl⟩) | fail)
      all_goals go_ret2
      all_goals exact ⟨rfl, by (repeat (first | exact Below.refl _ _ | assumption | refine Below_al ?_ _ | refine Below.drew ?_ | refine Below_then ?_ (by assumption) | refine Below.setCell ?_ (by first | omega | (simp; done) | (simp; omega)) _))⟩
    · rw [Bool.and_true, if_pos rfl]
      obtain ⟨⟨g1, g2⟩, ⟨g3, g4⟩, _, _⟩ := fieldOk_bd h1
      obtain ⟨g5, g6, g7, g8⟩ := inSh_cell h2
      obtain ⟨c, hc⟩ : ∃ c, c = partF d l x y := ⟨_, rfl⟩
      have H := fun w => l10Part_any d l p q x y g1 g2 g3 g4 g5 g6 g7 g8 w
      unfold tinF
      rw [← hc] at H ⊢
      have H' := Lib.hid H
      clear H hc
      by_cases h : c = 0
      · rw [if_pos h]
        subst h
        go_enter Tryz.func76, Tryz.ntmps76
        go_wp2_with (first | (go_at_call 62; refine (l3Good_any _ _ _ _ _).mono ?_; rintro e w1 ⟨rfl, hb1⟩; obtain ⟨hc1, hf1⟩ := bcell hb1; have hz1 : w.heap.size < w1.heap.size := Nat.lt_of_lt_of_le (by first | assumption | simp) hb1.size) | (go_at_call 24; refine (InShield_any _ _ _).mono ?_; rintro e w' ⟨rfl, rfl⟩) | (go_at_call 39; refine (l9In_any _ _ _).mono ?_; rintro e w' ⟨rfl, rfl⟩) | (go_at_call 89; refine (H'.out _).mono ?_; rintro e w1 ⟨rfl, hb1⟩; obtain ⟨hc1, hf1⟩ := bcell hb1; have hz1 : w.heap.size < w1.heap.size := Nat.lt_of_lt_of_le (by first | assumption | simp) hb1.size) | fail)
        all_goals go_ret2
        all_goals exact ⟨rfl, by (repeat (first | exact Below.refl _ _ | assumption | refine Below_al ?_ _ | refine Below.drew ?_ | refine Below_then ?_ (by assumption) | refine Below.setCell ?_ (by first | omega | (simp; done) | (simp; omega)) _))⟩
      · rw [if_neg h]
        have hb : (c == 0) = false := by simpa using h
        go_enter Tryz.func76, Tryz.ntmps76
        go_wp2_with (first | (go_at_call 62; refine (l3Good_any _ _ _ _ _).mono ?_; rintro e w1 ⟨rfl, hb1⟩; obtain ⟨hc1, hf1⟩ := bcell hb1; have hz1 : w.heap.size < w1.heap.size := Nat.lt_of_lt_of_le (by first | assumption | simp) hb1.size) | (go_at_call 24; refine (InShield_any _ _ _).mono ?_; rintro e w' ⟨rfl, rfl⟩) | (go_at_call 39; refine (l9In_any _ _ _).mono ?_; rintro e w' ⟨rfl, rfl⟩) | (go_at_call 89; refine (H'.out _).mono ?_; rintro e w1 ⟨rfl, hb1⟩; obtain ⟨hc1, hf1⟩ := bcell hb1; have hz1 : w.heap.size < w1.heap.size := Nat.lt_of_lt_of_le (by first | assumption | simp) hb1.size) | fail)
        all_goals go_ret2
        all_goals exact ⟨rfl, by (repeat (first | exact Below.refl _ _ | assumption | refine Below_al ?_ _ | refine Below.drew ?_ | refine Below_then ?_ (by assumption) | refine Below.setCell ?_ (by first | omega | (simp; done) | (simp; omega)) _))⟩
theorem l14Other_any (d l p q x : Int) (hp : 0 ≤ p ∧ p ≤ 9) (hq : 0 ≤ q ∧ q ≤ 9) (hx : 0 ≤ x ∧ x ≤ 9) (w : World) :
    Calls Tryz.prog 77 #[.agg #[.int .i64 d, .int .i64 l, .int .i64 p, .int .i64 q], .int .i64 x] w fun e w' => e = .returned (.int .i64 (p + q - x)) ∧ Below w.heap.size w w' := by
  go_enter Tryz.func77, Tryz.ntmps77
  go_wp2
  all_goals go_ret
  all_goals exact ⟨ret_int (by omega), by (repeat (first | exact Below.refl _ _ | assumption | refine Below_al ?_ _ | refine Below.drew ?_ | refine Below_then ?_ (by assumption) | refine Below.setCell ?_ (by first | omega | (simp; done) | (simp; omega)) _))⟩
end Go.Proofs.YtenaadmifppphaaGreatDoor
