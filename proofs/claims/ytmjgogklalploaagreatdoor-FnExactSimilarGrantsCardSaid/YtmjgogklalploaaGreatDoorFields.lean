/- Contracts: which tinctures, fields, groups and arms are valid. -/
import Derived.Test.YtmjgogklalploaaGreatDoorParts
import Derived.Laws.StructEq
namespace Go.Proofs.YtmjgogklalploaaGreatDoor
open Go.ChangeShapes Go.WideShapes Go.ChangeAt Go.RowKit

def fieldOk (d l p q : Int) : Bool := decide ((0 ≤ d ∧ d ≤ 7) ∧ (0 ≤ l ∧ l ≤ 4) ∧ (1 ≤ p ∧ p ≤ 9) ∧ (d = 0 ∧ l = 0 ∧ q = 0 ∨ d ≠ 0 ∧ (1 ≤ q ∧ q ≤ 9) ∧ q ≠ p))
theorem IsTincture_any (x : Int) (w : World) :
    Calls Tryz.prog 95 #[.int .i64 x] w fun e w' => e = .returned (.bool (decide (1 ≤ x ∧ x ≤ 9))) ∧ w = w' := by
  go_enter Tryz.func95, Tryz.ntmps95
  go_wp2_with (first | (go_at_call 39; refine (inside_any _ _ _ _).mono ?_; rintro e w' ⟨rfl, rfl⟩) | fail)
  go_ret
  exact ⟨by first | rfl | simp, rfl⟩
theorem l2Good_any (x : Int) (w : World) :
    Calls Tryz.prog 63 #[.int .i64 x] w fun e w' => e = .returned (.bool (decide (1 ≤ x ∧ x ≤ 9))) ∧ w = w' := by
  go_enter Tryz.func63, Tryz.ntmps63
  go_wp2_with (first | (go_at_call 30; refine (l1In_any _ _ _ _).mono ?_; rintro e w' ⟨rfl, rfl⟩) | fail)
  go_ret
  exact ⟨by first | rfl | simp, rfl⟩
theorem IsValidField_any (d l p q : Int) (w : World) :
    Calls Tryz.prog 72 #[.agg #[.int .i64 d, .int .i64 l, .int .i64 p, .int .i64 q]] w fun e w' => e = .returned (.bool (fieldOk d l p q)) ∧ Below w.heap.size w w' := by
  go_enter Tryz.func72, Tryz.ntmps72
  go_wp2_with (first | (go_at_call 39; refine (inside_any _ _ _ _).mono ?_; rintro e w' ⟨rfl, rfl⟩) | (go_at_call 94; refine (isLine_any _ _).mono ?_; rintro e w' ⟨rfl, rfl⟩) | (go_at_call 95; refine (IsTincture_any _ _).mono ?_; rintro e w' ⟨rfl, rfl⟩) | (go_at_call 30; refine (l1In_any _ _ _ _).mono ?_; rintro e w' ⟨rfl, rfl⟩) | (go_at_call 62; refine (l3Line_any _ _).mono ?_; rintro e w' ⟨rfl, rfl⟩) | (go_at_call 63; refine (l2Good_any _ _).mono ?_; rintro e w' ⟨rfl, rfl⟩) | fail)
  all_goals go_ret
  all_goals refine ⟨ret_bool ?_, ?_⟩
  all_goals first | ((repeat (first | exact Below.refl _ _ | assumption | refine Below_al ?_ _ | refine Below.drew ?_ | refine Below_then ?_ (by assumption) | refine Below.setCell ?_ (by first | omega | (simp; done) | (simp; omega)) _)); done) | (first | rfl | (simp [fieldOk]; done) | (simp [fieldOk]; omega) | (simp_all [fieldOk]; done) | (simp_all [fieldOk]; omega) | (rw [Bool.eq_iff_iff]; simp [fieldOk]; omega) | (rw [Bool.eq_iff_iff]; simp_all [fieldOk]; omega) | (rw [Bool.eq_iff_iff]; simp [fieldOk] at *; omega))
theorem l3Good_any (d l p q : Int) (w : World) :
    Calls Tryz.prog 59 #[.agg #[.int .i64 d, .int .i64 l, .int .i64 p, .int .i64 q]] w fun e w' => e = .returned (.bool (fieldOk d l p q)) ∧ Below w.heap.size w w' := by
  go_enter Tryz.func59, Tryz.ntmps59
  go_wp2_with (first | (go_at_call 39; refine (inside_any _ _ _ _).mono ?_; rintro e w' ⟨rfl, rfl⟩) | (go_at_call 94; refine (isLine_any _ _).mono ?_; rintro e w' ⟨rfl, rfl⟩) | (go_at_call 95; refine (IsTincture_any _ _).mono ?_; rintro e w' ⟨rfl, rfl⟩) | (go_at_call 30; refine (l1In_any _ _ _ _).mono ?_; rintro e w' ⟨rfl, rfl⟩) | (go_at_call 62; refine (l3Line_any _ _).mono ?_; rintro e w' ⟨rfl, rfl⟩) | (go_at_call 63; refine (l2Good_any _ _).mono ?_; rintro e w' ⟨rfl, rfl⟩) | fail)
  all_goals go_ret
  all_goals refine ⟨ret_bool ?_, ?_⟩
  all_goals first | ((repeat (first | exact Below.refl _ _ | assumption | refine Below_al ?_ _ | refine Below.drew ?_ | refine Below_then ?_ (by assumption) | refine Below.setCell ?_ (by first | omega | (simp; done) | (simp; omega)) _)); done) | (first | rfl | (simp [fieldOk]; done) | (simp [fieldOk]; omega) | (simp_all [fieldOk]; done) | (simp_all [fieldOk]; omega) | (rw [Bool.eq_iff_iff]; simp [fieldOk]; omega) | (rw [Bool.eq_iff_iff]; simp_all [fieldOk]; omega) | (rw [Bool.eq_iff_iff]; simp [fieldOk] at *; omega))

def groupOk (c k a t : Int) : Bool := decide ((1 ≤ c ∧ c ≤ 6) ∧ (1 ≤ k ∧ k ≤ 8) ∧ (1 ≤ t ∧ t ≤ 9) ∧ (k ≤ 3 ∧ 1 ≤ a ∧ a ≤ 2 ∨ 3 < k ∧ a = 0))
def groupNone (c k a t : Int) : Bool := decide (c = 0 ∧ k = 0 ∧ a = 0 ∧ t = 0)
theorem isKind_any (x : Int) (w : World) :
    Calls Tryz.prog 109 #[.int .i64 x] w fun e w' => e = .returned (.bool (decide (1 ≤ x ∧ x ≤ 8))) ∧ w = w' := by
  go_enter Tryz.func109, Tryz.ntmps109
  go_wp2_with (first | (go_at_call 39; refine (inside_any _ _ _ _).mono ?_; rintro e w' ⟨rfl, rfl⟩) | fail)
  go_ret
  exact ⟨by first | rfl | simp, rfl⟩
theorem l4Kind_any (x : Int) (w : World) :
    Calls Tryz.prog 89 #[.int .i64 x] w fun e w' => e = .returned (.bool (decide (1 ≤ x ∧ x ≤ 8))) ∧ w = w' := by
  go_enter Tryz.func89, Tryz.ntmps89
  go_wp2_with (first | (go_at_call 30; refine (l1In_any _ _ _ _).mono ?_; rintro e w' ⟨rfl, rfl⟩) | fail)
  go_ret
  exact ⟨by first | rfl | simp, rfl⟩
theorem l4Beast_any (x : Int) (w : World) :
    Calls Tryz.prog 90 #[.int .i64 x] w fun e w' => e = .returned (.bool (decide (x ≤ 3))) ∧ w = w' := by
  go_enter Tryz.func90, Tryz.ntmps90
  go_wp2
  go_ret
  exact ⟨rfl, rfl⟩
/-- How many words it hands back is all that is asked of it here. -/
def FreshLen (w : World) (n : Nat) (e : Ending) (w' : World) : Prop :=
  ∃ a, e = .returned (.slice a n n) ∧ Below w.heap.size w w'
theorem attitudes_len (k : Int) (h1 : 1 ≤ k) (h8 : k ≤ 8) (w : World) :
    Calls Tryz.prog 110 #[.int .i64 k] w (FreshLen w (if k ≤ 3 then 2 else 0)) := by
  by_cases h3 : k ≤ 3
  · rw [if_pos h3]
    have hc : k = 1 ∨ k = 2 ∨ k = 3 := by omega
    clear h1 h8 h3
    rcases hc with rfl | rfl | rfl
    all_goals
      go_enter Tryz.func110, Tryz.ntmps110
      go_wp2
      go_ret
      refine ⟨_, rfl, ?_⟩
      (repeat (first | exact Below.refl _ _ | assumption | refine Below_al ?_ _ | refine Below.drew ?_ | refine Below_then ?_ (by assumption) | refine Below.setCell ?_ (by first | omega | (simp; done) | (simp; omega)) _))
  · rw [if_neg h3]
    go_enter Tryz.func110, Tryz.ntmps110
    go_wp2
    go_ret
    refine ⟨_, rfl, ?_⟩
    (repeat (first | exact Below.refl _ _ | assumption | refine Below_al ?_ _ | refine Below.drew ?_ | refine Below_then ?_ (by assumption) | refine Below.setCell ?_ (by first | omega | (simp; done) | (simp; omega)) _))
theorem l4None_any (c k a t : Int) (w : World) :
    Calls Tryz.prog 60 #[.agg #[.int .i64 c, .int .i64 k, .int .i64 a, .int .i64 t]] w fun e w' => e = .returned (.bool (groupNone c k a t)) ∧ Below w.heap.size w w' := by
  go_enter Tryz.func60, Tryz.ntmps60
  go_wp2
  all_goals go_ret
  all_goals refine ⟨ret_bool ?_, ?_⟩
  all_goals first | ((repeat (first | exact Below.refl _ _ | assumption | refine Below_al ?_ _ | refine Below.drew ?_ | refine Below_then ?_ (by assumption) | refine Below.setCell ?_ (by first | omega | (simp; done) | (simp; omega)) _)); done) | (first | rfl | (simp [groupNone]; done) | (simp [groupNone]; omega) | (simp_all [groupNone]; done) | (simp_all [groupNone]; omega) | (rw [Bool.eq_iff_iff]; simp [groupNone]; omega) | (rw [Bool.eq_iff_iff]; simp_all [groupNone]; omega) | (rw [Bool.eq_iff_iff]; simp [groupNone] at *; omega))
theorem l4Group_any (c k a t : Int) (w : World) :
    Calls Tryz.prog 61 #[.agg #[.int .i64 c, .int .i64 k, .int .i64 a, .int .i64 t]] w fun e w' => e = .returned (.bool (groupOk c k a t)) ∧ Below w.heap.size w w' := by
  go_enter Tryz.func61, Tryz.ntmps61
  go_wp2_with (first | (go_at_call 39; refine (inside_any _ _ _ _).mono ?_; rintro e w' ⟨rfl, rfl⟩) | (go_at_call 109; refine (isKind_any _ _).mono ?_; rintro e w' ⟨rfl, rfl⟩) | (go_at_call 95; refine (IsTincture_any _ _).mono ?_; rintro e w' ⟨rfl, rfl⟩) | (go_at_call 30; refine (l1In_any _ _ _ _).mono ?_; rintro e w' ⟨rfl, rfl⟩) | (go_at_call 89; refine (l4Kind_any _ _).mono ?_; rintro e w' ⟨rfl, rfl⟩) | (go_at_call 90; refine (l4Beast_any _ _).mono ?_; rintro e w' ⟨rfl, rfl⟩) | (go_at_call 63; refine (l2Good_any _ _).mono ?_; rintro e w' ⟨rfl, rfl⟩) | (go_at_call 110; refine (attitudes_len _ (by omega) (by omega) _).mono ?_; rintro e w1 ⟨A, rfl, hb1⟩) | fail)
  all_goals go_ret
  all_goals refine ⟨ret_bool ?_, ?_⟩
  all_goals first | ((repeat (first | exact Below.refl _ _ | assumption | refine Below_al ?_ _ | refine Below.drew ?_ | refine Below_then ?_ (by assumption) | refine Below.setCell ?_ (by first | omega | (simp; done) | (simp; omega)) _)); done) | (first | rfl | (simp [groupOk]; done) | (simp [groupOk]; omega) | (simp_all [groupOk]; done) | (simp_all [groupOk]; omega) | (rw [Bool.eq_iff_iff]; simp [groupOk]; omega) | (rw [Bool.eq_iff_iff]; simp_all [groupOk]; omega) | (rw [Bool.eq_iff_iff]; simp [groupOk] at *; omega))
theorem IsValidGroup_any (c k a t : Int) (w : World) :
    Calls Tryz.prog 96 #[.agg #[.int .i64 c, .int .i64 k, .int .i64 a, .int .i64 t]] w fun e w' => e = .returned (.bool (groupOk c k a t)) ∧ Below w.heap.size w w' := by
  by_cases h3 : k ≤ 3
  all_goals
    go_enter Tryz.func96, Tryz.ntmps96
    go_wp2_with (first | (go_at_call 39; refine (inside_any _ _ _ _).mono ?_; rintro e w' ⟨rfl, rfl⟩) | (go_at_call 109; refine (isKind_any _ _).mono ?_; rintro e w' ⟨rfl, rfl⟩) | (go_at_call 95; refine (IsTincture_any _ _).mono ?_; rintro e w' ⟨rfl, rfl⟩) | (go_at_call 30; refine (l1In_any _ _ _ _).mono ?_; rintro e w' ⟨rfl, rfl⟩) | (go_at_call 89; refine (l4Kind_any _ _).mono ?_; rintro e w' ⟨rfl, rfl⟩) | (go_at_call 90; refine (l4Beast_any _ _).mono ?_; rintro e w' ⟨rfl, rfl⟩) | (go_at_call 63; refine (l2Good_any _ _).mono ?_; rintro e w' ⟨rfl, rfl⟩) | (go_at_call 110; refine (attitudes_len _ (by omega) (by omega) _).mono ?_; rintro e w1 ⟨A, rfl, hb1⟩; obtain ⟨hc1, hf1⟩ := bcell hb1) | fail)
    all_goals go_ret
    all_goals refine ⟨ret_bool ?_, ?_⟩
    all_goals first | ((repeat (first | exact Below.refl _ _ | assumption | refine Below_al ?_ _ | refine Below.drew ?_ | refine Below_then ?_ (by assumption) | refine Below.setCell ?_ (by first | omega | (simp; done) | (simp; omega)) _)); done) | (first | rfl | (simp [groupOk]; done) | (simp [groupOk]; omega) | (simp_all [groupOk]; done) | (simp_all [groupOk]; omega) | (rw [Bool.eq_iff_iff]; simp [groupOk]; omega) | (rw [Bool.eq_iff_iff]; simp_all [groupOk]; omega) | (rw [Bool.eq_iff_iff]; simp [groupOk] at *; omega))
end Go.Proofs.YtmjgogklalploaaGreatDoor
