/- Contracts of functions of a field and a cell. -/
import Derived.Test.YtfmigkiliggdhaaParts3
import Derived.Test.YtfmigkiliggdhaaFields
namespace Go.Proofs.Ytfmigkiliggdhaa
open Go.ChangeShapes Go.WideShapes Go.ChangeAt Go.RowKit

theorem fieldOk_bd {d l p q : Int} (h : fieldOk d l p q = true) : (0 ≤ d ∧ d ≤ 7) ∧ (0 ≤ l ∧ l ≤ 4) ∧ (1 ≤ p ∧ p ≤ 9) ∧ (0 ≤ q ∧ q ≤ 9) := by
  have h' := of_decide_eq_true h
  omega
def tinF (d l p q x y : Int) : Int := if partF d l x y = 0 then p else q
theorem Field_at_any (d l p q x y : Int) (hd0 : 0 ≤ d) (hd7 : d ≤ 7) (h0 : 0 ≤ l) (h4 : l ≤ 4) (hx0 : 0 ≤ x) (hx1 : x ≤ 19) (hy0 : 0 ≤ y) (hy1 : y ≤ 23) (w : World) :
    Calls Try.prog 71 #[.agg #[.int .i64 d, .int .i64 l, .int .i64 p, .int .i64 q], .int .i64 x, .int .i64 y] w fun e w' => e = .returned (.int .i64 (tinF d l p q x y)) ∧ Below w.heap.size w w' := by
  obtain ⟨c, hc⟩ : ∃ c, c = partF d l x y := ⟨_, rfl⟩
  have H := fun w => partAt_any d l x y hd0 hd7 h0 h4 hx0 hx1 hy0 hy1 w
  unfold tinF
  rw [← hc] at H ⊢
  have H' := Lib.hid H
  clear H hc
  by_cases h : c = 0
  · rw [if_pos h]
    subst h
    go_enter Try.func71, Try.ntmps71
    go_wp2_with (first | (go_at_call 47; refine (H'.out _).mono ?_; rintro e w1 ⟨rfl, hb1⟩; obtain ⟨hc1, hf1⟩ := bcell hb1; have hz1 : w.heap.size < w1.heap.size := Nat.lt_of_lt_of_le (by first | assumption | simp) hb1.size) | fail)
    go_ret
    exact ⟨rfl, by (repeat (first | exact Below.refl _ _ | assumption | refine Below_al ?_ _ | refine Below.drew ?_ | refine Below_then ?_ (by assumption) | refine Below.setCell ?_ (by first | omega | (simp; done) | (simp; omega)) _))⟩
  · rw [if_neg h]
    have hb : (c == 0) = false := by simpa using h
    go_enter Try.func71, Try.ntmps71
    go_wp2_with (first | (go_at_call 47; refine (H'.out _).mono ?_; rintro e w1 ⟨rfl, hb1⟩; obtain ⟨hc1, hf1⟩ := bcell hb1; have hz1 : w.heap.size < w1.heap.size := Nat.lt_of_lt_of_le (by first | assumption | simp) hb1.size) | fail)
    go_ret
    exact ⟨rfl, by (repeat (first | exact Below.refl _ _ | assumption | refine Below_al ?_ _ | refine Below.drew ?_ | refine Below_then ?_ (by assumption) | refine Below.setCell ?_ (by first | omega | (simp; done) | (simp; omega)) _))⟩
theorem FieldPart_any (d l p q x y : Int) (w : World) :
    Calls Try.prog 34 #[.agg #[.int .i64 d, .int .i64 l, .int .i64 p, .int .i64 q], .int .i64 x, .int .i64 y] w fun e w' => e = .returned (.tuple #[.int .i64 (if fieldOk d l p q && inSh x y then partF d l x y else 0), .bool (fieldOk d l p q && inSh x y)]) ∧ Below w.heap.size w w' := by
  cases h1 : fieldOk d l p q
  · rw [Bool.false_and]
    go_enter Try.func34, Try.ntmps34
    go_wp2_with (first | (go_at_call 65; refine (IsValidField_any _ _ _ _ _).mono ?_; rintro e w1 ⟨rfl, hb1⟩; obtain ⟨hc1, hf1⟩ := bcell hb1; have hz1 : w.heap.size < w1.heap.size := Nat.lt_of_lt_of_le (by first | assumption | simp) hb1.size) | (go_at_call 67; refine (l3Good_any _ _ _ _ _).mono ?_; rintro e w1 ⟨rfl, hb1⟩; obtain ⟨hc1, hf1⟩ := bcell hb1; have hz1 : w.heap.size < w1.heap.size := Nat.lt_of_lt_of_le (by first | assumption | simp) hb1.size) | (go_at_call 19; refine (InShield_any _ _ _).mono ?_; rintro e w' ⟨rfl, rfl⟩) | (go_at_call 56; refine (l9In_any _ _ _).mono ?_; rintro e w' ⟨rfl, rfl⟩) | fail)
    all_goals go_ret2
    all_goals exact ⟨rfl, by (repeat (first | exact Below.refl _ _ | assumption | refine Below_al ?_ _ | refine Below.drew ?_ | refine Below_then ?_ (by assumption) | refine Below.setCell ?_ (by first | omega | (simp; done) | (simp; omega)) _))⟩
  · cases h2 : inSh x y
    · rw [Bool.and_false]
      go_enter Try.func34, Try.ntmps34
      go_wp2_with (first | (go_at_call 65; refine (IsValidField_any _ _ _ _ _).mono ?_; rintro e w1 ⟨rfl, hb1⟩; obtain ⟨hc1, hf1⟩ := bcell hb1; have hz1 : w.heap.size < w1.heap.size := Nat.lt_of_lt_of_le (by first | assumption | simp) hb1.size) | (go_at_call 67; refine (l3Good_any _ _ _ _ _).mono ?_; rintro e w1 ⟨rfl, hb1⟩; obtain ⟨hc1, hf1⟩ := bcell hb1; have hz1 : w.heap.size < w1.heap.size := Nat.lt_of_lt_of_le (by first | assumption | simp) hb1.size) | (go_at_call 19; refine (InShield_any _ _ _).mono ?_; rintro e w' ⟨rfl, rfl⟩) | (go_at_call 56; refine (l9In_any _ _ _).mono ?_; rintro e w' ⟨rfl, rfl⟩) | fail)
      all_goals go_ret2
      all_goals exact ⟨rfl, by (repeat (first | exact Below.refl _ _ | assumption | refine Below_al ?_ _ | refine Below.drew ?_ | refine Below_then ?_ (by assumption) | refine Below.setCell ?_ (by first | omega | (simp; done) | (simp; omega)) _))⟩
    · rw [Bool.and_true, if_pos rfl]
      obtain ⟨⟨g1, g2⟩, ⟨g3, g4⟩, _, _⟩ := fieldOk_bd h1
      obtain ⟨g5, g6, g7, g8⟩ := inSh_cell h2
      go_enter Try.func34, Try.ntmps34
      go_wp2_with (first | (go_at_call 65; refine (IsValidField_any _ _ _ _ _).mono ?_; rintro e w1 ⟨rfl, hb1⟩; obtain ⟨hc1, hf1⟩ := bcell hb1; have hz1 : w.heap.size < w1.heap.size := Nat.lt_of_lt_of_le (by first | assumption | simp) hb1.size) | (go_at_call 67; refine (l3Good_any _ _ _ _ _).mono ?_; rintro e w1 ⟨rfl, hb1⟩; obtain ⟨hc1, hf1⟩ := bcell hb1; have hz1 : w.heap.size < w1.heap.size := Nat.lt_of_lt_of_le (by first | assumption | simp) hb1.size) | (go_at_call 19; refine (InShield_any _ _ _).mono ?_; rintro e w' ⟨rfl, rfl⟩) | (go_at_call 56; refine (l9In_any _ _ _).mono ?_; rintro e w' ⟨rfl, rfl⟩) | (go_at_call 47; refine (partAt_any _ _ _ _ (by omega) (by omega) (by omega) (by omega) (by omega) (by omega) (by omega) (by omega) _).mono ?_; rintro e w1 ⟨rfl, hb1⟩; obtain ⟨hc1, hf1⟩ := bcell hb1; have hz1 : w.heap.size < w1.heap.size := Nat.lt_of_lt_of_le (by first | assumption | simp) hb1.size) | fail)
      all_goals go_ret2
      all_goals exact ⟨rfl, by (repeat (first | exact Below.refl _ _ | assumption | refine Below_al ?_ _ | refine Below.drew ?_ | refine Below_then ?_ (by assumption) | refine Below.setCell ?_ (by first | omega | (simp; done) | (simp; omega)) _))⟩
theorem specFieldPart_any (d l p q x y : Int) (w : World) :
    Calls Try.prog 36 #[.agg #[.int .i64 d, .int .i64 l, .int .i64 p, .int .i64 q], .int .i64 x, .int .i64 y] w fun e w' => e = .returned (.tuple #[.int .i64 (if fieldOk d l p q && inSh x y then partF d l x y else 0), .bool (fieldOk d l p q && inSh x y)]) ∧ Below w.heap.size w w' := by
  cases h1 : fieldOk d l p q
  · rw [Bool.false_and]
    go_enter Try.func36, Try.ntmps36
    go_wp2_with (first | (go_at_call 65; refine (IsValidField_any _ _ _ _ _).mono ?_; rintro e w1 ⟨rfl, hb1⟩; obtain ⟨hc1, hf1⟩ := bcell hb1; have hz1 : w.heap.size < w1.heap.size := Nat.lt_of_lt_of_le (by first | assumption | simp) hb1.size) | (go_at_call 67; refine (l3Good_any _ _ _ _ _).mono ?_; rintro e w1 ⟨rfl, hb1⟩; obtain ⟨hc1, hf1⟩ := bcell hb1; have hz1 : w.heap.size < w1.heap.size := Nat.lt_of_lt_of_le (by first | assumption | simp) hb1.size) | (go_at_call 19; refine (InShield_any _ _ _).mono ?_; rintro e w' ⟨rfl, rfl⟩) | (go_at_call 56; refine (l9In_any _ _ _).mono ?_; rintro e w' ⟨rfl, rfl⟩) | fail)
    all_goals go_ret2
    all_goals exact ⟨rfl, by (repeat (first | exact Below.refl _ _ | assumption | refine Below_al ?_ _ | refine Below.drew ?_ | refine Below_then ?_ (by assumption) | refine Below.setCell ?_ (by first | omega | (simp; done) | (simp; omega)) _))⟩
  · cases h2 : inSh x y
    · rw [Bool.and_false]
      go_enter Try.func36, Try.ntmps36
      go_wp2_with (first | (go_at_call 65; refine (IsValidField_any _ _ _ _ _).mono ?_; rintro e w1 ⟨rfl, hb1⟩; obtain ⟨hc1, hf1⟩ := bcell hb1; have hz1 : w.heap.size < w1.heap.size := Nat.lt_of_lt_of_le (by first | assumption | simp) hb1.size) | (go_at_call 67; refine (l3Good_any _ _ _ _ _).mono ?_; rintro e w1 ⟨rfl, hb1⟩; obtain ⟨hc1, hf1⟩ := bcell hb1; have hz1 : w.heap.size < w1.heap.size := Nat.lt_of_lt_of_le (by first | assumption | simp) hb1.size) | (go_at_call 19; refine (InShield_any _ _ _).mono ?_; rintro e w' ⟨rfl, rfl⟩) | (go_at_call 56; refine (l9In_any _ _ _).mono ?_; rintro e w' ⟨rfl, rfl⟩) | fail)
      all_goals go_ret2
      all_goals exact ⟨rfl, by (repeat (first | exact Below.refl _ _ | assumption | refine Below_al ?_ _ | refine Below.drew ?_ | refine Below_then ?_ (by assumption) | refine Below.setCell ?_ (by first | omega | (simp; done) | (simp; omega)) _))⟩
    · rw [Bool.and_true, if_pos rfl]
      obtain ⟨⟨g1, g2⟩, ⟨g3, g4⟩, _, _⟩ := fieldOk_bd h1
      obtain ⟨g5, g6, g7, g8⟩ := inSh_cell h2
      go_enter Try.func36, Try.ntmps36
      go_wp2_with (first | (go_at_call 65; refine (IsValidField_any _ _ _ _ _).mono ?_; rintro e w1 ⟨rfl, hb1⟩; obtain ⟨hc1, hf1⟩ := bcell hb1; have hz1 : w.heap.size < w1.heap.size := Nat.lt_of_lt_of_le (by first | assumption | simp) hb1.size) | (go_at_call 67; refine (l3Good_any _ _ _ _ _).mono ?_; rintro e w1 ⟨rfl, hb1⟩; obtain ⟨hc1, hf1⟩ := bcell hb1; have hz1 : w.heap.size < w1.heap.size := Nat.lt_of_lt_of_le (by first | assumption | simp) hb1.size) | (go_at_call 19; refine (InShield_any _ _ _).mono ?_; rintro e w' ⟨rfl, rfl⟩) | (go_at_call 56; refine (l9In_any _ _ _).mono ?_; rintro e w' ⟨rfl, rfl⟩) | (go_at_call 68; refine (l10Part_any _ _ _ _ _ _ (by omega) (by omega) (by omega) (by omega) (by omega) (by omega) (by omega) (by omega) _).mono ?_; rintro e w1 ⟨rfl, hb1⟩; obtain ⟨hc1, hf1⟩ := bcell hb1; have hz1 : w.heap.size < w1.heap.size := Nat.lt_of_lt_of_le (by first | assumption | simp) hb1.size) | fail)
      all_goals go_ret2
      all_goals exact ⟨rfl, by (repeat (first | exact Below.refl _ _ | assumption | refine Below_al ?_ _ | refine Below.drew ?_ | refine Below_then ?_ (by assumption) | refine Below.setCell ?_ (by first | omega | (simp; done) | (simp; omega)) _))⟩
theorem FieldTincture_any (d l p q x y : Int) (w : World) :
    Calls Try.prog 33 #[.agg #[.int .i64 d, .int .i64 l, .int .i64 p, .int .i64 q], .int .i64 x, .int .i64 y] w fun e w' => e = .returned (.tuple #[.int .i64 (if fieldOk d l p q && inSh x y then tinF d l p q x y else 0), .bool (fieldOk d l p q && inSh x y)]) ∧ Below w.heap.size w w' := by
  cases h1 : fieldOk d l p q
  · rw [Bool.false_and]
    go_enter Try.func33, Try.ntmps33
    go_wp2_with (first | (go_at_call 65; refine (IsValidField_any _ _ _ _ _).mono ?_; rintro e w1 ⟨rfl, hb1⟩; obtain ⟨hc1, hf1⟩ := bcell hb1; have hz1 : w.heap.size < w1.heap.size := Nat.lt_of_lt_of_le (by first | assumption | simp) hb1.size) | (go_at_call 67; refine (l3Good_any _ _ _ _ _).mono ?_; rintro e w1 ⟨rfl, hb1⟩; obtain ⟨hc1, hf1⟩ := bcell hb1; have hz1 : w.heap.size < w1.heap.size := Nat.lt_of_lt_of_le (by first | assumption | simp) hb1.size) | (go_at_call 19; refine (InShield_any _ _ _).mono ?_; rintro e w' ⟨rfl, rfl⟩) | (go_at_call 56; refine (l9In_any _ _ _).mono ?_; rintro e w' ⟨rfl, rfl⟩) | fail)
    all_goals go_ret2
    all_goals exact ⟨rfl, by (repeat (first | exact Below.refl _ _ | assumption | refine Below_al ?_ _ | refine Below.drew ?_ | refine Below_then ?_ (by assumption) | refine Below.setCell ?_ (by first | omega | (simp; done) | (simp; omega)) _))⟩
  · cases h2 : inSh x y
    · rw [Bool.and_false]
      go_enter Try.func33, Try.ntmps33
      go_wp2_with (first | (go_at_call 65; refine (IsValidField_any _ _ _ _ _).mono ?_; rintro e w1 ⟨rfl, hb1⟩; obtain ⟨hc1, hf1⟩ := bcell hb1; have hz1 : w.heap.size < w1.heap.size := Nat.lt_of_lt_of_le (by first | assumption | simp) hb1.size) | (go_at_call 67; refine (l3Good_any _ _ _ _ _).mono ?_; rintro e w1 ⟨rfl, hb1⟩; obtain ⟨hc1, hf1⟩ := bcell hb1; have hz1 : w.heap.size < w1.heap.size := Nat.lt_of_lt_of_le (by first | assumption | simp) hb1.size) | (go_at_call 19; refine (InShield_any _ _ _).mono ?_; rintro e w' ⟨rfl, rfl⟩) | (go_at_call 56; refine (l9In_any _ _ _).mono ?_; rintro e w' ⟨rfl, rfl⟩) | fail)
      all_goals go_ret2
      all_goals exact ⟨rfl, by (repeat (first | exact Below.refl _ _ | assumption | refine Below_al ?_ _ | refine Below.drew ?_ | refine Below_then ?_ (by assumption) | refine Below.setCell ?_ (by first | omega | (simp; done) | (simp; omega)) _))⟩
    · rw [Bool.and_true, if_pos rfl]
      obtain ⟨⟨g1, g2⟩, ⟨g3, g4⟩, _, _⟩ := fieldOk_bd h1
      obtain ⟨g5, g6, g7, g8⟩ := inSh_cell h2
      go_enter Try.func33, Try.ntmps33
      go_wp2_with (first | (go_at_call 65; refine (IsValidField_any _ _ _ _ _).mono ?_; rintro e w1 ⟨rfl, hb1⟩; obtain ⟨hc1, hf1⟩ := bcell hb1; have hz1 : w.heap.size < w1.heap.size := Nat.lt_of_lt_of_le (by first | assumption | simp) hb1.size) | (go_at_call 67; refine (l3Good_any _ _ _ _ _).mono ?_; rintro e w1 ⟨rfl, hb1⟩; obtain ⟨hc1, hf1⟩ := bcell hb1; have hz1 : w.heap.size < w1.heap.size := Nat.lt_of_lt_of_le (by first | assumption | simp) hb1.size) | (go_at_call 19; refine (InShield_any _ _ _).mono ?_; rintro e w' ⟨rfl, rfl⟩) | (go_at_call 56; refine (l9In_any _ _ _).mono ?_; rintro e w' ⟨rfl, rfl⟩) | (go_at_call 71; refine (Field_at_any _ _ _ _ _ _ (by omega) (by omega) (by omega) (by omega) (by omega) (by omega) (by omega) (by omega) _).mono ?_; rintro e w1 ⟨rfl, hb1⟩; obtain ⟨hc1, hf1⟩ := bcell hb1; have hz1 : w.heap.size < w1.heap.size := Nat.lt_of_lt_of_le (by first | assumption | simp) hb1.size) | fail)
      all_goals go_ret2
      all_goals exact ⟨rfl, by (repeat (first | exact Below.refl _ _ | assumption | refine Below_al ?_ _ | refine Below.drew ?_ | refine Below_then ?_ (by assumption) | refine Below.setCell ?_ (by first | omega | (simp; done) | (simp; omega)) _))⟩
theorem specFieldTincture_any (d l p q x y : Int) (w : World) :
    Calls Try.prog 35 #[.agg #[.int .i64 d, .int .i64 l, .int .i64 p, .int .i64 q], .int .i64 x, .int .i64 y] w fun e w' => e = .returned (.tuple #[.int .i64 (if fieldOk d l p q && inSh x y then tinF d l p q x y else 0), .bool (fieldOk d l p q && inSh x y)]) ∧ Below w.heap.size w w' := by
  cases h1 : fieldOk d l p q
  · rw [Bool.false_and]
    go_enter Try.func35, Try.ntmps35
    go_wp2_with (first | (go_at_call 65; refine (IsValidField_any _ _ _ _ _).mono ?_; rintro e w1 ⟨rfl, hb1⟩; obtain ⟨hc1, hf1⟩ := bcell hb1; have hz1 : w.heap.size < w1.heap.size := Nat.lt_of_lt_of_le (by first | assumption | simp) hb1.size) | (go_at_call 67; refine (l3Good_any _ _ _ _ _).mono ?_; rintro e w1 ⟨rfl, hb1⟩; obtain ⟨hc1, hf1⟩ := bcell hb1; have hz1 : w.heap.size < w1.heap.size := Nat.lt_of_lt_of_le (by first | assumption | simp) hb1.size) | (go_at_call 19; refine (InShield_any _ _ _).mono ?_; rintro e w' ⟨rfl, rfl⟩) | (go_at_call 56; refine (l9In_any _ _ _).mono ?_; rintro e w' ⟨rfl, rfl⟩) | fail)
    all_goals go_ret2
    all_goals exact ⟨rfl, by (repeat (first | exact Below.refl _ _ | assumption | refine Below_al ?_ _ | refine Below.drew ?_ | refine Below_then ?_ (by assumption) | refine Below.setCell ?_ (by first | omega | (simp; done) | (simp; omega)) _))⟩
  · cases h2 : inSh x y
    · rw [Bool.and_false]
      go_enter Try.func35, Try.ntmps35
      go_wp2_with (first | (go_at_call 65; refine (IsValidField_any _ _ _ _ _).mono ?_; rintro e w1 ⟨rfl, hb1⟩; obtain ⟨hc1, hf1⟩ := bcell hb1; have hz1 : w.heap.size < w1.heap.size := Nat.lt_of_lt_of_le (by first | assumption | simp) hb1.size) | (go_at_call 67; refine (l3Good_any _ _ _ _ _).mono ?_; rintro e w1 ⟨rfl, hb1⟩; obtain ⟨hc1, hf1⟩ := bcell hb1; have hz1 : w.heap.size < w1.heap.size := Nat.lt_of_lt_of_le (by first | assumption | simp) hb1.size) | (go_at_call 19; refine (InShield_any _ _ _).mono ?_; rintro e w' ⟨rfl, rfl⟩) | (go_at_call 56; refine (l9In_any _ _ _).mono ?_; rintro e w' ⟨rfl, rfl⟩) | fail)
      all_goals go_ret2
      all_goals exact ⟨rfl, by (repeat (first | exact Below.refl _ _ | assumption | refine Below_al ?_ _ | refine Below.drew ?_ | refine Below_then ?_ (by assumption) | refine Below.setCell ?_ (by first | omega | (simp; done) | (simp; omega)) _))⟩
    · rw [Bool.and_true, if_pos rfl]
      obtain ⟨⟨g1, g2⟩, ⟨g3, g4⟩, _, _⟩ := fieldOk_bd h1
      obtain ⟨g5, g6, g7, g8⟩ := inSh_cell h2
      obtain ⟨c, hc⟩ : ∃ c, c = partF d l x y := ⟨_, rfl⟩
      have H := fun w => l10Part_any d l p q x y g1 g2 g3 g4 g5 g6 g7 g8 w
      unfold tinF
      rw [← hc] at H ⊢
      have H' := Lib.hid H
      clear H hc
      by_cases h : c = 0
      · rw [if_pos h]
        subst h
        go_enter Try.func35, Try.ntmps35
        go_wp2_with (first | (go_at_call 65; refine (IsValidField_any _ _ _ _ _).mono ?_; rintro e w1 ⟨rfl, hb1⟩; obtain ⟨hc1, hf1⟩ := bcell hb1; have hz1 : w.heap.size < w1.heap.size := Nat.lt_of_lt_of_le (by first | assumption | simp) hb1.size) | (go_at_call 67; refine (l3Good_any _ _ _ _ _).mono ?_; rintro e w1 ⟨rfl, hb1⟩; obtain ⟨hc1, hf1⟩ := bcell hb1; have hz1 : w.heap.size < w1.heap.size := Nat.lt_of_lt_of_le (by first | assumption | simp) hb1.size) | (go_at_call 19; refine (InShield_any _ _ _).mono ?_; rintro e w' ⟨rfl, rfl⟩) | (go_at_call 56; refine (l9In_any _ _ _).mono ?_; rintro e w' ⟨rfl, rfl⟩) | (go_at_call 68; refine (H'.out _).mono ?_; rintro e w1 ⟨rfl, hb1⟩; obtain ⟨hc1, hf1⟩ := bcell hb1; have hz1 : w.heap.size < w1.heap.size := Nat.lt_of_lt_of_le (by first | assumption | simp) hb1.size) | fail)
        all_goals go_ret2
        all_goals exact ⟨rfl, by (repeat (first | exact Below.refl _ _ | assumption | refine Below_al ?_ _ | refine Below.drew ?_ | refine Below_then ?_ (by assumption) | refine Below.setCell ?_ (by first | omega | (simp; done) | (simp; omega)) _))⟩
      · rw [if_neg h]
        have hb : (c == 0) = false := by simpa using h
        go_enter Try.func35, Try.ntmps35
        go_wp2_with (first | (go_at_call 65; refine (IsValidField_any _ _ _ _ _).mono ?_; rintro e w1 ⟨rfl, hb1⟩; obtain ⟨hc1, hf1⟩ := bcell hb1; have hz1 : w.heap.size < w1.heap.size := Nat.lt_of_lt_of_le (by first | assumption | simp) hb1.size) | (go_at_call 67; refine (l3Good_any _ _ _ _ _).mono ?_; rintro e w1 ⟨rfl, hb1⟩; obtain ⟨hc1, hf1⟩ := bcell hb1; have hz1 : w.heap.size < w1.heap.size := Nat.lt_of_lt_of_le (by first | assumption | simp) hb1.size) | (go_at_call 19; refine (InShield_any _ _ _).mono ?_; rintro e w' ⟨rfl, rfl⟩) | (go_at_call 56; refine (l9In_any _ _ _).mono ?_; rintro e w' ⟨rfl, rfl⟩) | (go_at_call 68; refine (H'.out _).mono ?_; rintro e w1 ⟨rfl, hb1⟩; obtain ⟨hc1, hf1⟩ := bcell hb1; have hz1 : w.heap.size < w1.heap.size := Nat.lt_of_lt_of_le (by first | assumption | simp) hb1.size) | fail)
        all_goals go_ret2
        all_goals exact ⟨rfl, by (repeat (first | exact Below.refl _ _ | assumption | refine Below_al ?_ _ | refine Below.drew ?_ | refine Below_then ?_ (by assumption) | refine Below.setCell ?_ (by first | omega | (simp; done) | (simp; omega)) _))⟩
end Go.Proofs.Ytfmigkiliggdhaa
