/- Contracts of functions of a field and a cell. -/
import Derived.Test.YtljeephifdopfaaParts3
import Derived.Test.YtljeephifdopfaaFields
namespace Go.Proofs.Ytljeephifdopfaa
open Go.ChangeShapes Go.WideShapes Go.ChangeAt Go.RowKit

theorem fieldOk_bd {d l p q : Int} (h : fieldOk d l p q = true) : (0 ≤ d ∧ d ≤ 7) ∧ (0 ≤ l ∧ l ≤ 4) ∧ (1 ≤ p ∧ p ≤ 9) ∧ (0 ≤ q ∧ q ≤ 9) := by
  have h' := of_decide_eq_true h
  omega
def tinF (d l p q x y : Int) : Int := if partF d l x y = 0 then p else q
theorem toField_any (d l p q : Int) (w : World) :
    Calls Try.prog 13 #[.agg #[.int .i64 d, .int .i64 l, .int .i64 p, .int .i64 q]] w fun e w' => e = .returned (.agg #[.int .i64 d, .int .i64 l, .int .i64 p, .int .i64 q]) ∧ Below w.heap.size w w' := by
  go_enter Try.func13, Try.ntmps13
  go_wp2
  exact bodyPost_ret (v := .agg #[.int .i64 d, .int .i64 l, .int .i64 p, .int .i64 q]) (by simp [results, Try.results13, go_sem]) rfl ⟨rfl, by (repeat (first | exact Below.refl _ _ | assumption | refine Below_al ?_ _ | refine Below.drew ?_ | refine Below_then ?_ (by assumption) | refine Below.setCell ?_ (by first | omega | (simp; done) | (simp; omega)) _))⟩
theorem Field_at_any (d l p q x y : Int) (hd0 : 0 ≤ d) (hd7 : d ≤ 7) (h0 : 0 ≤ l) (h4 : l ≤ 4) (hx0 : 0 ≤ x) (hx1 : x ≤ 19) (hy0 : 0 ≤ y) (hy1 : y ≤ 23) (w : World) :
    Calls Try.prog 57 #[.agg #[.int .i64 d, .int .i64 l, .int .i64 p, .int .i64 q], .int .i64 x, .int .i64 y] w fun e w' => e = .returned (.int .i64 (tinF d l p q x y)) ∧ Below w.heap.size w w' := by
  obtain ⟨c, hc⟩ : ∃ c, c = partF d l x y := ⟨_, rfl⟩
  have H := fun w => partAt_any d l x y hd0 hd7 h0 h4 hx0 hx1 hy0 hy1 w
  unfold tinF
  rw [← hc] at H ⊢
  have H' := Lib.hid H
  clear H hc
  by_cases h : c = 0
  · rw [if_pos h]
    subst h
    go_enter Try.func57, Try.ntmps57
    go_wp2_with (first | (go_at_call 56; refine (H'.out _).mono ?_; rintro e w1 ⟨rfl, hb1⟩; obtain ⟨hc1, hf1⟩ := bcell hb1; have hz1 : w.heap.size < w1.heap.size := Nat.lt_of_lt_of_le (by first | assumption | simp) hb1.size) | fail)
    go_ret
    exact ⟨rfl, by (repeat (first | exact Below.refl _ _ | assumption | refine Below_al ?_ _ | refine Below.drew ?_ | refine Below_then ?_ (by assumption) | refine Below.setCell ?_ (by first | omega | (simp; done) | (simp; omega)) _))⟩
  · rw [if_neg h]
    have hb : (c == 0) = false := by simpa using h
    go_enter Try.func57, Try.ntmps57
    go_wp2_with (first | (go_at_call 56; refine (H'.out _).mono ?_; rintro e w1 ⟨rfl, hb1⟩; obtain ⟨hc1, hf1⟩ := bcell hb1; have hz1 : w.heap.size < w1.heap.size := Nat.lt_of_lt_of_le (by first | assumption | simp) hb1.size) | fail)
    go_ret
    exact ⟨rfl, by (repeat (first | exact Below.refl _ _ | assumption | refine Below_al ?_ _ | refine Below.drew ?_ | refine Below_then ?_ (by assumption) | refine Below.setCell ?_ (by first | omega | (simp; done) | (simp; omega)) _))⟩
theorem FieldPart_any (d l p q x y : Int) (w : World) :
    Calls Try.prog 14 #[.agg #[.int .i64 d, .int .i64 l, .int .i64 p, .int .i64 q], .int .i64 x, .int .i64 y] w fun e w' => e = .returned (.tuple #[.int .i64 (if fieldOk d l p q && inSh x y then partF d l x y else 0), .bool (fieldOk d l p q && inSh x y)]) ∧ Below w.heap.size w w' := by
  cases h1 : fieldOk d l p q
  · rw [Bool.false_and]
    go_enter Try.func14, Try.ntmps14
    go_wp2_with (first | (go_at_call 54; refine (IsValidField_any _ _ _ _ _).mono ?_; rintro e w1 ⟨rfl, hb1⟩; obtain ⟨hc1, hf1⟩ := bcell hb1; have hz1 : w.heap.size < w1.heap.size := Nat.lt_of_lt_of_le (by first | assumption | simp) hb1.size) | (go_at_call 51; refine (l3Good_any _ _ _ _ _).mono ?_; rintro e w1 ⟨rfl, hb1⟩; obtain ⟨hc1, hf1⟩ := bcell hb1; have hz1 : w.heap.size < w1.heap.size := Nat.lt_of_lt_of_le (by first | assumption | simp) hb1.size) | (go_at_call 55; refine (InShield_any _ _ _).mono ?_; rintro e w' ⟨rfl, rfl⟩) | (go_at_call 52; refine (l9In_any _ _ _).mono ?_; rintro e w' ⟨rfl, rfl⟩) | fail)
    all_goals go_ret2
    all_goals exact ⟨rfl, by (repeat (first | exact Below.refl _ _ | assumption | refine Below_al ?_ _ | refine Below.drew ?_ | refine Below_then ?_ (by assumption) | refine Below.setCell ?_ (by first | omega | (simp; done) | (simp; omega)) _))⟩
  · cases h2 : inSh x y
    · rw [Bool.and_false]
      go_enter Try.func14, Try.ntmps14
      go_wp2_with (first | (go_at_call 54; refine (IsValidField_any _ _ _ _ _).mono ?_; rintro e w1 ⟨rfl, hb1⟩; obtain ⟨hc1, hf1⟩ := bcell hb1; have hz1 : w.heap.size < w1.heap.size := Nat.lt_of_lt_of_le (by first | assumption | simp) hb1.size) | (go_at_call 51; refine (l3Good_any _ _ _ _ _).mono ?_; rintro e w1 ⟨rfl, hb1⟩; obtain ⟨hc1, hf1⟩ := bcell hb1; have hz1 : w.heap.size < w1.heap.size := Nat.lt_of_lt_of_le (by first | assumption | simp) hb1.size) | (go_at_call 55; refine (InShield_any _ _ _).mono ?_; rintro e w' ⟨rfl, rfl⟩) | (go_at_call 52; refine (l9In_any _ _ _).mono ?_; rintro e w' ⟨rfl, rfl⟩) | fail)
      all_goals go_ret2
      all_goals exact ⟨rfl, by (repeat (first | exact Below.refl _ _ | assumption | refine Below_al ?_ _ | refine Below.drew ?_ | refine Below_then ?_ (by assumption) | refine Below.setCell ?_ (by first | omega | (simp; done) | (simp; omega)) _))⟩
    · rw [Bool.and_true, if_pos rfl]
      obtain ⟨⟨g1, g2⟩, ⟨g3, g4⟩, _, _⟩ := fieldOk_bd h1
      obtain ⟨g5, g6, g7, g8⟩ := inSh_cell h2
      go_enter Try.func14, Try.ntmps14
      go_wp2_with (first | (go_at_call 54; refine (IsValidField_any _ _ _ _ _).mono ?_; rintro e w1 ⟨rfl, hb1⟩; obtain ⟨hc1, hf1⟩ := bcell hb1; have hz1 : w.heap.size < w1.heap.size := Nat.lt_of_lt_of_le (by first | assumption | simp) hb1.size) | (go_at_call 51; refine (l3Good_any _ _ _ _ _).mono ?_; rintro e w1 ⟨rfl, hb1⟩; obtain ⟨hc1, hf1⟩ := bcell hb1; have hz1 : w.heap.size < w1.heap.size := Nat.lt_of_lt_of_le (by first | assumption | simp) hb1.size) | (go_at_call 55; refine (InShield_any _ _ _).mono ?_; rintro e w' ⟨rfl, rfl⟩) | (go_at_call 52; refine (l9In_any _ _ _).mono ?_; rintro e w' ⟨rfl, rfl⟩) | (go_at_call 56; refine (partAt_any _ _ _ _ (by omega) (by omega) (by omega) (by omega) (by omega) (by omega) (by omega) (by omega) _).mono ?_; rintro e w1 ⟨rfl, hb1⟩; obtain ⟨hc1, hf1⟩ := bcell hb1; have hz1 : w.heap.size < w1.heap.size := Nat.lt_of_lt_of_le (by first | assumption | simp) hb1.size) | fail)
      all_goals go_ret2
      all_goals exact ⟨rfl, by (repeat (first | exact Below.refl _ _ | assumption | refine Below_al ?_ _ | refine Below.drew ?_ | refine Below_then ?_ (by assumption) | refine Below.setCell ?_ (by first | omega | (simp; done) | (simp; omega)) _))⟩
theorem specFieldPart_any (d l p q x y : Int) (w : World) :
    Calls Try.prog 12 #[.agg #[.int .i64 d, .int .i64 l, .int .i64 p, .int .i64 q], .int .i64 x, .int .i64 y] w fun e w' => e = .returned (.tuple #[.int .i64 (if fieldOk d l p q && inSh x y then partF d l x y else 0), .bool (fieldOk d l p q && inSh x y)]) ∧ Below w.heap.size w w' := by
  cases h1 : fieldOk d l p q
  · rw [Bool.false_and]
    go_enter Try.func12, Try.ntmps12
    go_wp2_with (first | (go_at_call 54; refine (IsValidField_any _ _ _ _ _).mono ?_; rintro e w1 ⟨rfl, hb1⟩; obtain ⟨hc1, hf1⟩ := bcell hb1; have hz1 : w.heap.size < w1.heap.size := Nat.lt_of_lt_of_le (by first | assumption | simp) hb1.size) | (go_at_call 51; refine (l3Good_any _ _ _ _ _).mono ?_; rintro e w1 ⟨rfl, hb1⟩; obtain ⟨hc1, hf1⟩ := bcell hb1; have hz1 : w.heap.size < w1.heap.size := Nat.lt_of_lt_of_le (by first | assumption | simp) hb1.size) | (go_at_call 55; refine (InShield_any _ _ _).mono ?_; rintro e w' ⟨rfl, rfl⟩) | (go_at_call 52; refine (l9In_any _ _ _).mono ?_; rintro e w' ⟨rfl, rfl⟩) | fail)
    all_goals go_ret2
    all_goals exact ⟨rfl, by (repeat (first | exact Below.refl _ _ | assumption | refine Below_al ?_ _ | refine Below.drew ?_ | refine Below_then ?_ (by assumption) | refine Below.setCell ?_ (by first | omega | (simp; done) | (simp; omega)) _))⟩
  · cases h2 : inSh x y
    · rw [Bool.and_false]
      go_enter Try.func12, Try.ntmps12
      go_wp2_with (first | (go_at_call 54; refine (IsValidField_any _ _ _ _ _).mono ?_; rintro e w1 ⟨rfl, hb1⟩; obtain ⟨hc1, hf1⟩ := bcell hb1; have hz1 : w.heap.size < w1.heap.size := Nat.lt_of_lt_of_le (by first | assumption | simp) hb1.size) | (go_at_call 51; refine (l3Good_any _ _ _ _ _).mono ?_; rintro e w1 ⟨rfl, hb1⟩; obtain ⟨hc1, hf1⟩ := bcell hb1; have hz1 : w.heap.size < w1.heap.size := Nat.lt_of_lt_of_le (by first | assumption | simp) hb1.size) | (go_at_call 55; refine (InShield_any _ _ _).mono ?_; rintro e w' ⟨rfl, rfl⟩) | (go_at_call 52; refine (l9In_any _ _ _).mono ?_; rintro e w' ⟨rfl, rfl⟩) | fail)
      all_goals go_ret2
      all_goals exact ⟨rfl, by (repeat (first | exact Below.refl _ _ | assumption | refine Below_al ?_ _ | refine Below.drew ?_ | refine Below_then ?_ (by assumption) | refine Below.setCell ?_ (by first | omega | (simp; done) | (simp; omega)) _))⟩
    · rw [Bool.and_true, if_pos rfl]
      obtain ⟨⟨g1, g2⟩, ⟨g3, g4⟩, _, _⟩ := fieldOk_bd h1
      obtain ⟨g5, g6, g7, g8⟩ := inSh_cell h2
      go_enter Try.func12, Try.ntmps12
      go_wp2_with (first | (go_at_call 54; refine (IsValidField_any _ _ _ _ _).mono ?_; rintro e w1 ⟨rfl, hb1⟩; obtain ⟨hc1, hf1⟩ := bcell hb1; have hz1 : w.heap.size < w1.heap.size := Nat.lt_of_lt_of_le (by first | assumption | simp) hb1.size) | (go_at_call 51; refine (l3Good_any _ _ _ _ _).mono ?_; rintro e w1 ⟨rfl, hb1⟩; obtain ⟨hc1, hf1⟩ := bcell hb1; have hz1 : w.heap.size < w1.heap.size := Nat.lt_of_lt_of_le (by first | assumption | simp) hb1.size) | (go_at_call 55; refine (InShield_any _ _ _).mono ?_; rintro e w' ⟨rfl, rfl⟩) | (go_at_call 52; refine (l9In_any _ _ _).mono ?_; rintro e w' ⟨rfl, rfl⟩) | (go_at_call 53; refine (l10Part_any _ _ _ _ _ _ (by omega) (by omega) (by omega) (by omega) (by omega) (by omega) (by omega) (by omega) _).mono ?_; rintro e w1 ⟨rfl, hb1⟩; obtain ⟨hc1, hf1⟩ := bcell hb1; have hz1 : w.heap.size < w1.heap.size := Nat.lt_of_lt_of_le (by first | assumption | simp) hb1.size) | fail)
      all_goals go_ret2
      all_goals exact ⟨rfl, by (repeat (first | exact Below.refl _ _ | assumption | refine Below_al ?_ _ | refine Below.drew ?_ | refine Below_then ?_ (by assumption) | refine Below.setCell ?_ (by first | omega | (simp; done) | (simp; omega)) _))⟩
theorem FieldTincture_any (d l p q x y : Int) (w : World) :
    Calls Try.prog 16 #[.agg #[.int .i64 d, .int .i64 l, .int .i64 p, .int .i64 q], .int .i64 x, .int .i64 y] w fun e w' => e = .returned (.tuple #[.int .i64 (if fieldOk d l p q && inSh x y then tinF d l p q x y else 0), .bool (fieldOk d l p q && inSh x y)]) ∧ Below w.heap.size w w' := by
  cases h1 : fieldOk d l p q
  · rw [Bool.false_and]
    go_enter Try.func16, Try.ntmps16
    go_wp2_with (first | (go_at_call 54; refine (IsValidField_any _ _ _ _ _).mono ?_; rintro e w1 ⟨rfl, hb1⟩; obtain ⟨hc1, hf1⟩ := bcell hb1; have hz1 : w.heap.size < w1.heap.size := Nat.lt_of_lt_of_le (by first | assumption | simp) hb1.size) | (go_at_call 51; refine (l3Good_any _ _ _ _ _).mono ?_; rintro e w1 ⟨rfl, hb1⟩; obtain ⟨hc1, hf1⟩ := bcell hb1; have hz1 : w.heap.size < w1.heap.size := Nat.lt_of_lt_of_le (by first | assumption | simp) hb1.size) | (go_at_call 55; refine (InShield_any _ _ _).mono ?_; rintro e w' ⟨rfl, rfl⟩) | (go_at_call 52; refine (l9In_any _ _ _).mono ?_; rintro e w' ⟨rfl, rfl⟩) | fail)
    all_goals go_ret2
    all_goals exact ⟨rfl, by (repeat (first | exact Below.refl _ _ | assumption | refine Below_al ?_ _ | refine Below.drew ?_ | refine Below_then ?_ (by assumption) | refine Below.setCell ?_ (by first | omega | (simp; done) | (simp; omega)) _))⟩
  · cases h2 : inSh x y
    · rw [Bool.and_false]
      go_enter Try.func16, Try.ntmps16
      go_wp2_with (first | (go_at_call 54; refine (IsValidField_any _ _ _ _ _).mono ?_; rintro e w1 ⟨rfl, hb1⟩; obtain ⟨hc1, hf1⟩ := bcell hb1; have hz1 : w.heap.size < w1.heap.size := Nat.lt_of_lt_of_le (by first | assumption | simp) hb1.size) | (go_at_call 51; refine (l3Good_any _ _ _ _ _).mono ?_; rintro e w1 ⟨rfl, hb1⟩; obtain ⟨hc1, hf1⟩ := bcell hb1; have hz1 : w.heap.size < w1.heap.size := Nat.lt_of_lt_of_le (by first | assumption | simp) hb1.size) | (go_at_call 55; refine (InShield_any _ _ _).mono ?_; rintro e w' ⟨rfl, rfl⟩) | (go_at_call 52; refine (l9In_any _ _ _).mono ?_; rintro e w' ⟨rfl, rfl⟩) | fail)
      all_goals go_ret2
      all_goals exact ⟨rfl, by (repeat (first | exact Below.refl _ _ | assumption | refine Below_al ?_ _ | refine Below.drew ?_ | refine Below_then ?_ (by assumption) | refine Below.setCell ?_ (by first | omega | (simp; done) | (simp; omega)) _))⟩
    · rw [Bool.and_true, if_pos rfl]
      obtain ⟨⟨g1, g2⟩, ⟨g3, g4⟩, _, _⟩ := fieldOk_bd h1
      obtain ⟨g5, g6, g7, g8⟩ := inSh_cell h2
      go_enter Try.func16, Try.ntmps16
      go_wp2_with (first | (go_at_call 54; refine (IsValidField_any _ _ _ _ _).mono ?_; rintro e w1 ⟨rfl, hb1⟩; obtain ⟨hc1, hf1⟩ := bcell hb1; have hz1 : w.heap.size < w1.heap.size := Nat.lt_of_lt_of_le (by first | assumption | simp) hb1.size) | (go_at_call 51; refine (l3Good_any _ _ _ _ _).mono ?_; rintro e w1 ⟨rfl, hb1⟩; obtain ⟨hc1, hf1⟩ := bcell hb1; have hz1 : w.heap.size < w1.heap.size := Nat.lt_of_lt_of_le (by first | assumption | simp) hb1.size) | (go_at_call 55; refine (InShield_any _ _ _).mono ?_; rintro e w' ⟨rfl, rfl⟩) | (go_at_call 52; refine (l9In_any _ _ _).mono ?_; rintro e w' ⟨rfl, rfl⟩) | (go_at_call 57; refine (Field_at_any _ _ _ _ _ _ (by omega) (by omega) (by omega) (by omega) (by omega) (by omega) (by omega) (by omega) _).mono ?_; rintro e w1 ⟨rfl, hb1⟩; obtain ⟨hc1, hf1⟩ := bcell hb1; have hz1 : w.heap.size < w1.heap.size := Nat.lt_of_lt_of_le (by first | assumption | simp) hb1.size) | fail)
      all_goals go_ret2
      all_goals exact ⟨rfl, by (repeat (first | exact Below.refl _ _ | assumption | refine Below_al ?_ _ | refine Below.drew ?_ | refine Below_then ?_ (by assumption) | refine Below.setCell ?_ (by first | omega | (simp; done) | (simp; omega)) _))⟩
theorem specFieldTincture_any (d l p q x y : Int) (w : World) :
    Calls Try.prog 15 #[.agg #[.int .i64 d, .int .i64 l, .int .i64 p, .int .i64 q], .int .i64 x, .int .i64 y] w fun e w' => e = .returned (.tuple #[.int .i64 (if fieldOk d l p q && inSh x y then tinF d l p q x y else 0), .bool (fieldOk d l p q && inSh x y)]) ∧ Below w.heap.size w w' := by
  cases h1 : fieldOk d l p q
  · rw [Bool.false_and]
    go_enter Try.func15, Try.ntmps15
    go_wp2_with (first | (go_at_call 54; refine (IsValidField_any _ _ _ _ _).mono ?_; rintro e w1 ⟨rfl, hb1⟩; obtain ⟨hc1, hf1⟩ := bcell hb1; have hz1 : w.heap.size < w1.heap.size := Nat.lt_of_lt_of_le (by first | assumption | simp) hb1.size) | (go_at_call 51; refine (l3Good_any _ _ _ _ _).mono ?_; rintro e w1 ⟨rfl, hb1⟩; obtain ⟨hc1, hf1⟩ := bcell hb1; have hz1 : w.heap.size < w1.heap.size := Nat.lt_of_lt_of_le (by first | assumption | simp) hb1.size) | (go_at_call 55; refine (InShield_any _ _ _).mono ?_; rintro e w' ⟨rfl, rfl⟩) | (go_at_call 52; refine (l9In_any _ _ _).mono ?_; rintro e w' ⟨rfl, rfl⟩) | fail)
    all_goals go_ret2
    all_goals exact ⟨rfl, by (repeat (first | exact Below.refl _ _ | assumption | refine Below_al ?_ _ | refine Below.drew ?_ | refine Below_then ?_ (by assumption) | refine Below.setCell ?_ (by first | omega | (simp; done) | (simp; omega)) _))⟩
  · cases h2 : inSh x y
    · rw [Bool.and_false]
      go_enter Try.func15, Try.ntmps15
      go_wp2_with (first | (go_at_call 54; refine (IsValidField_any _ _ _ _ _).mono ?_; rintro e w1 ⟨rfl, hb1⟩; obtain ⟨hc1, hf1⟩ := bcell hb1; have hz1 : w.heap.size < w1.heap.size := Nat.lt_of_lt_of_le (by first | assumption | simp) hb1.size) | (go_at_call 51; refine (l3Good_any _ _ _ _ _).mono ?_; rintro e w1 ⟨rfl, hb1⟩; obtain ⟨hc1, hf1⟩ := bcell hb1; have hz1 : w.heap.size < w1.heap.size := Nat.lt_of_lt_of_le (by first | assumption | simp) hb1.size) | (go_at_call 55; refine (InShield_any _ _ _).mono ?_; rintro e w' ⟨rfl, rfl⟩) | (go_at_call 52; refine (l9In_any _ _ _).mono ?_; rintro e w' ⟨rfl, rfl⟩) | fail)
      all_goals go_ret2
      all_goals exact ⟨rfl, by (repeat (first | exact Below.refl _ _ | assumption | refine Below_al ?_ _ | refine Below.drew ?_ | refine Below_then ?_ (by assumption) | refine Below.setCell ?_ (by first | omega | (simp; done) | (simp; omega)) _))⟩
    · rw [Bool.and_true, if_pos rfl]
      obtain ⟨⟨g1, g2⟩, ⟨g3, g4⟩, _, _⟩ := fieldOk_bd h1
      obtain ⟨g5, g6, g7, g8⟩ := inSh_cell h2
      obtain ⟨c, hc⟩ : ∃ c, c = partF d l x y := ⟨_, rfl⟩
      have H := fun w => l10Part_any d l p q x y g1 g2 g3 g4 g5 g6 g7 g8 w
      unfold tinF
      rw [← hc] at H ⊢
      have H' := Lib.hid H
      clear H hc
      by_cases h : c = 0
      · rw [if_pos h]
        subst h
        go_enter Try.func15, Try.ntmps15
        go_wp2_with (first | (go_at_call 54; refine (IsValidField_any _ _ _ _ _).mono ?_; rintro e w1 ⟨rfl, hb1⟩; obtain ⟨hc1, hf1⟩ := bcell hb1; have hz1 : w.heap.size < w1.heap.size := Nat.lt_of_lt_of_le (by first | assumption | simp) hb1.size) | (go_at_call 51; refine (l3Good_any _ _ _ _ _).mono ?_; rintro e w1 ⟨rfl, hb1⟩; obtain ⟨hc1, hf1⟩ := bcell hb1; have hz1 : w.heap.size < w1.heap.size := Nat.lt_of_lt_of_le (by first | assumption | simp) hb1.size) | (go_at_call 55; refine (InShield_any _ _ _).mono ?_; rintro e w' ⟨rfl, rfl⟩) | (go_at_call 52; refine (l9In_any _ _ _).mono ?_; rintro e w' ⟨rfl, rfl⟩) | (go_at_call 53; refine (H'.out _).mono ?_; rintro e w1 ⟨rfl, hb1⟩; obtain ⟨hc1, hf1⟩ := bcell hb1; have hz1 : w.heap.size < w1.heap.size := Nat.lt_of_lt_of_le (by first | assumption | simp) hb1.size) | fail)
        all_goals go_ret2
        all_goals exact ⟨rfl, by (repeat (first | exact Below.refl _ _ | assumption | refine Below_al ?_ _ | refine Below.drew ?_ | refine Below_then ?_ (by assumption) | refine Below.setCell ?_ (by first | omega | (simp; done) | (simp; omega)) _))⟩
      · rw [if_neg h]
        have hb : (c == 0) = false := by simpa using h
        go_enter Try.func15, Try.ntmps15
        go_wp2_with (first | (go_at_call 54; refine (IsValidField_any _ _ _ _ _).mono ?_; rintro e w1 ⟨rfl, hb1⟩; obtain ⟨hc1, hf1⟩ := bcell hb1; have hz1 : w.heap.size < w1.heap.size := Nat.lt_of_lt_of_le (by first | assumption | simp) hb1.size) | (go_at_call 51; refine (l3Good_any _ _ _ _ _).mono ?_; rintro e w1 ⟨rfl, hb1⟩; obtain ⟨hc1, hf1⟩ := bcell hb1; have hz1 : w.heap.size < w1.heap.size := Nat.lt_of_lt_of_le (by first | assumption | simp) hb1.size) | (go_at_call 55; refine (InShield_any _ _ _).mono ?_; rintro e w' ⟨rfl, rfl⟩) | (go_at_call 52; refine (l9In_any _ _ _).mono ?_; rintro e w' ⟨rfl, rfl⟩) | (go_at_call 53; refine (H'.out _).mono ?_; rintro e w1 ⟨rfl, hb1⟩; obtain ⟨hc1, hf1⟩ := bcell hb1; have hz1 : w.heap.size < w1.heap.size := Nat.lt_of_lt_of_le (by first | assumption | simp) hb1.size) | fail)
        all_goals go_ret2
        all_goals exact ⟨rfl, by (repeat (first | exact Below.refl _ _ | assumption | refine Below_al ?_ _ | refine Below.drew ?_ | refine Below_then ?_ (by assumption) | refine Below.setCell ?_ (by first | omega | (simp; done) | (simp; omega)) _))⟩
theorem isDivided_any (d l p q : Int) (w : World) :
    Calls Try.prog 94 #[.agg #[.int .i64 d, .int .i64 l, .int .i64 p, .int .i64 q]] w fun e w' => e = .returned (.bool (fieldOk d l p q && !(d == 0))) ∧ Below w.heap.size w w' := by
  cases h1 : fieldOk d l p q
  all_goals
    go_enter Try.func94, Try.ntmps94
    go_wp2_with (first | (go_at_call 54; refine (IsValidField_any _ _ _ _ _).mono ?_; rintro e w1 ⟨rfl, hb1⟩; obtain ⟨hc1, hf1⟩ := bcell hb1; have hz1 : w.heap.size < w1.heap.size := Nat.lt_of_lt_of_le (by first | assumption | simp) hb1.size) | (go_at_call 51; refine (l3Good_any _ _ _ _ _).mono ?_; rintro e w1 ⟨rfl, hb1⟩; obtain ⟨hc1, hf1⟩ := bcell hb1; have hz1 : w.heap.size < w1.heap.size := Nat.lt_of_lt_of_le (by first | assumption | simp) hb1.size) | (go_at_call 55; refine (InShield_any _ _ _).mono ?_; rintro e w' ⟨rfl, rfl⟩) | (go_at_call 52; refine (l9In_any _ _ _).mono ?_; rintro e w' ⟨rfl, rfl⟩) | fail)
    all_goals go_ret
    all_goals exact ⟨ret_bool (by first | rfl | simp_all [bne]), by (repeat (first | exact Below.refl _ _ | assumption | refine Below_al ?_ _ | refine Below.drew ?_ | refine Below_then ?_ (by assumption) | refine Below.setCell ?_ (by first | omega | (simp; done) | (simp; omega)) _))⟩
theorem l14Divided_any (d l p q : Int) (w : World) :
    Calls Try.prog 92 #[.agg #[.int .i64 d, .int .i64 l, .int .i64 p, .int .i64 q]] w fun e w' => e = .returned (.bool (fieldOk d l p q && !(d == 0))) ∧ Below w.heap.size w w' := by
  cases h1 : fieldOk d l p q
  all_goals
    go_enter Try.func92, Try.ntmps92
    go_wp2_with (first | (go_at_call 54; refine (IsValidField_any _ _ _ _ _).mono ?_; rintro e w1 ⟨rfl, hb1⟩; obtain ⟨hc1, hf1⟩ := bcell hb1; have hz1 : w.heap.size < w1.heap.size := Nat.lt_of_lt_of_le (by first | assumption | simp) hb1.size) | (go_at_call 51; refine (l3Good_any _ _ _ _ _).mono ?_; rintro e w1 ⟨rfl, hb1⟩; obtain ⟨hc1, hf1⟩ := bcell hb1; have hz1 : w.heap.size < w1.heap.size := Nat.lt_of_lt_of_le (by first | assumption | simp) hb1.size) | (go_at_call 55; refine (InShield_any _ _ _).mono ?_; rintro e w' ⟨rfl, rfl⟩) | (go_at_call 52; refine (l9In_any _ _ _).mono ?_; rintro e w' ⟨rfl, rfl⟩) | fail)
    all_goals go_ret
    all_goals exact ⟨ret_bool (by first | rfl | simp_all [bne]), by (repeat (first | exact Below.refl _ _ | assumption | refine Below_al ?_ _ | refine Below.drew ?_ | refine Below_then ?_ (by assumption) | refine Below.setCell ?_ (by first | omega | (simp; done) | (simp; omega)) _))⟩
theorem Field_other_any (d l p q x : Int) (hp : 0 ≤ p ∧ p ≤ 9) (hq : 0 ≤ q ∧ q ≤ 9) (hx : 0 ≤ x ∧ x ≤ 9) (w : World) :
    Calls Try.prog 95 #[.agg #[.int .i64 d, .int .i64 l, .int .i64 p, .int .i64 q], .int .i64 x] w fun e w' => e = .returned (.int .i64 (p + q - x)) ∧ Below w.heap.size w w' := by
  go_enter Try.func95, Try.ntmps95
  go_wp2
  all_goals go_ret
  all_goals exact ⟨ret_int (by omega), by (repeat (first | exact Below.refl _ _ | assumption | refine Below_al ?_ _ | refine Below.drew ?_ | refine Below_then ?_ (by assumption) | refine Below.setCell ?_ (by first | omega | (simp; done) | (simp; omega)) _))⟩
theorem l14Other_any (d l p q x : Int) (hp : 0 ≤ p ∧ p ≤ 9) (hq : 0 ≤ q ∧ q ≤ 9) (hx : 0 ≤ x ∧ x ≤ 9) (w : World) :
    Calls Try.prog 93 #[.agg #[.int .i64 d, .int .i64 l, .int .i64 p, .int .i64 q], .int .i64 x] w fun e w' => e = .returned (.int .i64 (p + q - x)) ∧ Below w.heap.size w w' := by
  go_enter Try.func93, Try.ntmps93
  go_wp2
  all_goals go_ret
  all_goals exact ⟨ret_int (by omega), by (repeat (first | exact Below.refl _ _ | assumption | refine Below_al ?_ _ | refine Below.drew ?_ | refine Below_then ?_ (by assumption) | refine Below.setCell ?_ (by first | omega | (simp; done) | (simp; omega)) _))⟩
theorem OtherTincture_any (d l p q x : Int) (w : World) :
    Calls Try.prog 50 #[.agg #[.int .i64 d, .int .i64 l, .int .i64 p, .int .i64 q], .int .i64 x] w fun e w' => e = .returned (.tuple #[.int .i64 (if (fieldOk d l p q && !(d == 0)) && (x == p || x == q) then p + q - x else 0), .bool ((fieldOk d l p q && !(d == 0)) && (x == p || x == q))]) ∧ Below w.heap.size w w' := by
  cases h1 : (fieldOk d l p q && !(d == 0))
  · rw [Bool.false_and]
    go_enter Try.func50, Try.ntmps50
    go_wp2_with (first | (go_at_call 94; refine (isDivided_any _ _ _ _ _).mono ?_; rintro e w1 ⟨rfl, hb1⟩; obtain ⟨hc1, hf1⟩ := bcell hb1; have hz1 : w.heap.size < w1.heap.size := Nat.lt_of_lt_of_le (by first | assumption | simp) hb1.size) | (go_at_call 92; refine (l14Divided_any _ _ _ _ _).mono ?_; rintro e w1 ⟨rfl, hb1⟩; obtain ⟨hc1, hf1⟩ := bcell hb1; have hz1 : w.heap.size < w1.heap.size := Nat.lt_of_lt_of_le (by first | assumption | simp) hb1.size) | (go_at_call 95; refine (Field_other_any _ _ _ _ _ (by omega) (by omega) (by omega) _).mono ?_; rintro e w1 ⟨rfl, hb1⟩; obtain ⟨hc1, hf1⟩ := bcell hb1; have hz1 : w.heap.size < w1.heap.size := Nat.lt_of_lt_of_le (by first | assumption | simp) hb1.size) | fail)
    all_goals go_ret2
    all_goals exact ⟨rfl, by (repeat (first | exact Below.refl _ _ | assumption | refine Below_al ?_ _ | refine Below.drew ?_ | refine Below_then ?_ (by assumption) | refine Below.setCell ?_ (by first | omega | (simp; done) | (simp; omega)) _))⟩
  · have hbd := fieldOk_bd (d := d) (l := l) (p := p) (q := q) (by rw [Bool.and_eq_true] at h1; exact h1.1)
    by_cases h2 : x = p
    · subst h2
      rw [show (x == x || x == q) = true from by simp]
      go_enter Try.func50, Try.ntmps50
      go_wp2_with (first | (go_at_call 94; refine (isDivided_any _ _ _ _ _).mono ?_; rintro e w1 ⟨rfl, hb1⟩; obtain ⟨hc1, hf1⟩ := bcell hb1; have hz1 : w.heap.size < w1.heap.size := Nat.lt_of_lt_of_le (by first | assumption | simp) hb1.size) | (go_at_call 92; refine (l14Divided_any _ _ _ _ _).mono ?_; rintro e w1 ⟨rfl, hb1⟩; obtain ⟨hc1, hf1⟩ := bcell hb1; have hz1 : w.heap.size < w1.heap.size := Nat.lt_of_lt_of_le (by first | assumption | simp) hb1.size) | (go_at_call 95; refine (Field_other_any _ _ _ _ _ (by omega) (by omega) (by omega) _).mono ?_; rintro e w1 ⟨rfl, hb1⟩; obtain ⟨hc1, hf1⟩ := bcell hb1; have hz1 : w.heap.size < w1.heap.size := Nat.lt_of_lt_of_le (by first | assumption | simp) hb1.size) | fail)
      all_goals go_ret2
      all_goals exact ⟨rfl, by (repeat (first | exact Below.refl _ _ | assumption | refine Below_al ?_ _ | refine Below.drew ?_ | refine Below_then ?_ (by assumption) | refine Below.setCell ?_ (by first | omega | (simp; done) | (simp; omega)) _))⟩
    · by_cases h3 : x = q
      · subst h3
        have hne : (x != p) = true := by simpa using h2
        rw [show (x == p || x == x) = true from by simp]
        go_enter Try.func50, Try.ntmps50
        go_wp2_with (first | (go_at_call 94; refine (isDivided_any _ _ _ _ _).mono ?_; rintro e w1 ⟨rfl, hb1⟩; obtain ⟨hc1, hf1⟩ := bcell hb1; have hz1 : w.heap.size < w1.heap.size := Nat.lt_of_lt_of_le (by first | assumption | simp) hb1.size) | (go_at_call 92; refine (l14Divided_any _ _ _ _ _).mono ?_; rintro e w1 ⟨rfl, hb1⟩; obtain ⟨hc1, hf1⟩ := bcell hb1; have hz1 : w.heap.size < w1.heap.size := Nat.lt_of_lt_of_le (by first | assumption | simp) hb1.size) | (go_at_call 95; refine (Field_other_any _ _ _ _ _ (by omega) (by omega) (by omega) _).mono ?_; rintro e w1 ⟨rfl, hb1⟩; obtain ⟨hc1, hf1⟩ := bcell hb1; have hz1 : w.heap.size < w1.heap.size := Nat.lt_of_lt_of_le (by first | assumption | simp) hb1.size) | fail)
        all_goals go_ret2
        all_goals exact ⟨rfl, by (repeat (first | exact Below.refl _ _ | assumption | refine Below_al ?_ _ | refine Below.drew ?_ | refine Below_then ?_ (by assumption) | refine Below.setCell ?_ (by first | omega | (simp; done) | (simp; omega)) _))⟩
      · have hne : (x != p) = true := by simpa using h2
        have hne2 : (x != q) = true := by simpa using h3
        rw [show (x == p || x == q) = false from by simp [h2, h3]]
        go_enter Try.func50, Try.ntmps50
        go_wp2_with (first | (go_at_call 94; refine (isDivided_any _ _ _ _ _).mono ?_; rintro e w1 ⟨rfl, hb1⟩; obtain ⟨hc1, hf1⟩ := bcell hb1; have hz1 : w.heap.size < w1.heap.size := Nat.lt_of_lt_of_le (by first | assumption | simp) hb1.size) | (go_at_call 92; refine (l14Divided_any _ _ _ _ _).mono ?_; rintro e w1 ⟨rfl, hb1⟩; obtain ⟨hc1, hf1⟩ := bcell hb1; have hz1 : w.heap.size < w1.heap.size := Nat.lt_of_lt_of_le (by first | assumption | simp) hb1.size) | (go_at_call 95; refine (Field_other_any _ _ _ _ _ (by omega) (by omega) (by omega) _).mono ?_; rintro e w1 ⟨rfl, hb1⟩; obtain ⟨hc1, hf1⟩ := bcell hb1; have hz1 : w.heap.size < w1.heap.size := Nat.lt_of_lt_of_le (by first | assumption | simp) hb1.size) | fail)
        all_goals go_ret2
        all_goals exact ⟨rfl, by (repeat (first | exact Below.refl _ _ | assumption | refine Below_al ?_ _ | refine Below.drew ?_ | refine Below_then ?_ (by assumption) | refine Below.setCell ?_ (by first | omega | (simp; done) | (simp; omega)) _))⟩
theorem specOtherTincture_any (d l p q x : Int) (w : World) :
    Calls Try.prog 49 #[.agg #[.int .i64 d, .int .i64 l, .int .i64 p, .int .i64 q], .int .i64 x] w fun e w' => e = .returned (.tuple #[.int .i64 (if (fieldOk d l p q && !(d == 0)) && (x == p || x == q) then p + q - x else 0), .bool ((fieldOk d l p q && !(d == 0)) && (x == p || x == q))]) ∧ Below w.heap.size w w' := by
  cases h1 : (fieldOk d l p q && !(d == 0))
  · rw [Bool.false_and]
    go_enter Try.func49, Try.ntmps49
    go_wp2_with (first | (go_at_call 94; refine (isDivided_any _ _ _ _ _).mono ?_; rintro e w1 ⟨rfl, hb1⟩; obtain ⟨hc1, hf1⟩ := bcell hb1; have hz1 : w.heap.size < w1.heap.size := Nat.lt_of_lt_of_le (by first | assumption | simp) hb1.size) | (go_at_call 92; refine (l14Divided_any _ _ _ _ _).mono ?_; rintro e w1 ⟨rfl, hb1⟩; obtain ⟨hc1, hf1⟩ := bcell hb1; have hz1 : w.heap.size < w1.heap.size := Nat.lt_of_lt_of_le (by first | assumption | simp) hb1.size) | (go_at_call 93; refine (l14Other_any _ _ _ _ _ (by omega) (by omega) (by omega) _).mono ?_; rintro e w1 ⟨rfl, hb1⟩; obtain ⟨hc1, hf1⟩ := bcell hb1; have hz1 : w.heap.size < w1.heap.size := Nat.lt_of_lt_of_le (by first | assumption | simp) hb1.size) | fail)
    all_goals go_ret2
    all_goals exact ⟨rfl, by (repeat (first | exact Below.refl _ _ | assumption | refine Below_al ?_ _ | refine Below.drew ?_ | refine Below_then ?_ (by assumption) | refine Below.setCell ?_ (by first | omega | (simp; done) | (simp; omega)) _))⟩
  · have hbd := fieldOk_bd (d := d) (l := l) (p := p) (q := q) (by rw [Bool.and_eq_true] at h1; exact h1.1)
    by_cases h2 : x = p
    · subst h2
      rw [show (x == x || x == q) = true from by simp]
      go_enter Try.func49, Try.ntmps49
      go_wp2_with (first | (go_at_call 94; refine (isDivided_any _ _ _ _ _).mono ?_; rintro e w1 ⟨rfl, hb1⟩; obtain ⟨hc1, hf1⟩ := bcell hb1; have hz1 : w.heap.size < w1.heap.size := Nat.lt_of_lt_of_le (by first | assumption | simp) hb1.size) | (go_at_call 92; refine (l14Divided_any _ _ _ _ _).mono ?_; rintro e w1 ⟨rfl, hb1⟩; obtain ⟨hc1, hf1⟩ := bcell hb1; have hz1 : w.heap.size < w1.heap.size := Nat.lt_of_lt_of_le (by first | assumption | simp) hb1.size) | (go_at_call 93; refine (l14Other_any _ _ _ _ _ (by omega) (by omega) (by omega) _).mono ?_; rintro e w1 ⟨rfl, hb1⟩; obtain ⟨hc1, hf1⟩ := bcell hb1; have hz1 : w.heap.size < w1.heap.size := Nat.lt_of_lt_of_le (by first | assumption | simp) hb1.size) | fail)
      all_goals go_ret2
      all_goals exact ⟨rfl, by (repeat (first | exact Below.refl _ _ | assumption | refine Below_al ?_ _ | refine Below.drew ?_ | refine Below_then ?_ (by assumption) | refine Below.setCell ?_ (by first | omega | (simp; done) | (simp; omega)) _))⟩
    · by_cases h3 : x = q
      · subst h3
        have hne : (x != p) = true := by simpa using h2
        rw [show (x == p || x == x) = true from by simp]
        go_enter Try.func49, Try.ntmps49
        go_wp2_with (first | (go_at_call 94; refine (isDivided_any _ _ _ _ _).mono ?_; rintro e w1 ⟨rfl, hb1⟩; obtain ⟨hc1, hf1⟩ := bcell hb1; have hz1 : w.heap.size < w1.heap.size := Nat.lt_of_lt_of_le (by first | assumption | simp) hb1.size) | (go_at_call 92; refine (l14Divided_any _ _ _ _ _).mono ?_; rintro e w1 ⟨rfl, hb1⟩; obtain ⟨hc1, hf1⟩ := bcell hb1; have hz1 : w.heap.size < w1.heap.size := Nat.lt_of_lt_of_le (by first | assumption | simp) hb1.size) | (go_at_call 93; refine (l14Other_any _ _ _ _ _ (by omega) (by omega) (by omega) _).mono ?_; rintro e w1 ⟨rfl, hb1⟩; obtain ⟨hc1, hf1⟩ := bcell hb1; have hz1 : w.heap.size < w1.heap.size := Nat.lt_of_lt_of_le (by first | assumption | simp) hb1.size) | fail)
        all_goals go_ret2
        all_goals exact ⟨rfl, by (repeat (first | exact Below.refl _ _ | assumption | refine Below_al ?_ _ | refine Below.drew ?_ | refine Below_then ?_ (by assumption) | refine Below.setCell ?_ (by first | omega | (simp; done) | (simp; omega)) _))⟩
      · have hne : (x != p) = true := by simpa using h2
        have hne2 : (x != q) = true := by simpa using h3
        rw [show (x == p || x == q) = false from by simp [h2, h3]]
        go_enter Try.func49, Try.ntmps49
        go_wp2_with (first | (go_at_call 94; refine (isDivided_any _ _ _ _ _).mono ?_; rintro e w1 ⟨rfl, hb1⟩; obtain ⟨hc1, hf1⟩ := bcell hb1; have hz1 : w.heap.size < w1.heap.size := Nat.lt_of_lt_of_le (by first | assumption | simp) hb1.size) | (go_at_call 92; refine (l14Divided_any _ _ _ _ _).mono ?_; rintro e w1 ⟨rfl, hb1⟩; obtain ⟨hc1, hf1⟩ := bcell hb1; have hz1 : w.heap.size < w1.heap.size := Nat.lt_of_lt_of_le (by first | assumption | simp) hb1.size) | (go_at_call 93; refine (l14Other_any _ _ _ _ _ (by omega) (by omega) (by omega) _).mono ?_; rintro e w1 ⟨rfl, hb1⟩; obtain ⟨hc1, hf1⟩ := bcell hb1; have hz1 : w.heap.size < w1.heap.size := Nat.lt_of_lt_of_le (by first | assumption | simp) hb1.size) | fail)
        all_goals go_ret2
        all_goals exact ⟨rfl, by (repeat (first | exact Below.refl _ _ | assumption | refine Below_al ?_ _ | refine Below.drew ?_ | refine Below_then ?_ (by assumption) | refine Below.setCell ?_ (by first | omega | (simp; done) | (simp; omega)) _))⟩
end Go.Proofs.Ytljeephifdopfaa
