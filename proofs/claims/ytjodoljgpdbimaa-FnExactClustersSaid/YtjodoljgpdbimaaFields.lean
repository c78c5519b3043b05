/- Contracts: which tinctures, fields, groups and arms are valid. -/
import Derived.Test.YtjodoljgpdbimaaParts
import Derived.Laws.StructEq
namespace Go.Proofs.Ytjodoljgpdbimaa
open Go.ChangeShapes Go.WideShapes Go.ChangeAt Go.RowKit

def fieldOk (d l p q : Int) : Bool := decide ((0 ≤ d ∧ d ≤ 7) ∧ (0 ≤ l ∧ l ≤ 4) ∧ (1 ≤ p ∧ p ≤ 9) ∧ (d = 0 ∧ l = 0 ∧ q = 0 ∨ d ≠ 0 ∧ (1 ≤ q ∧ q ≤ 9) ∧ q ≠ p))
theorem IsTincture_any (x : Int) (w : World) :
    Calls Try.prog 67 #[.int .i64 x] w fun e w' => e = .returned (.bool (decide (1 ≤ x ∧ x ≤ 9))) ∧ w = w' := by
  go_enter Try.func67, Try.ntmps67
  go_wp2_with (first | (go_at_call 36; refine (inside_any _ _ _ _).mono ?_; rintro e w' ⟨rfl, rfl⟩) | fail)
  go_ret
  exact ⟨by first | rfl | simp, rfl⟩
theorem l2Good_any (x : Int) (w : World) :
    Calls Try.prog 45 #[.int .i64 x] w fun e w' => e = .returned (.bool (decide (1 ≤ x ∧ x ≤ 9))) ∧ w = w' := by
  go_enter Try.func45, Try.ntmps45
  go_wp2_with (first | (go_at_call 31; refine (l1In_any _ _ _ _).mono ?_; rintro e w' ⟨rfl, rfl⟩) | fail)
  go_ret
  exact ⟨by first | rfl | simp, rfl⟩
theorem IsValidField_any (d l p q : Int) (w : World) :
    Calls Try.prog 48 #[.agg #[.int .i64 d, .int .i64 l, .int .i64 p, .int .i64 q]] w fun e w' => e = .returned (.bool (fieldOk d l p q)) ∧ Below w.heap.size w w' := by
  go_enter Try.func48, Try.ntmps48
  go_wp2_with (first | (go_at_call 36; refine (inside_any _ _ _ _).mono ?_; rintro e w' ⟨rfl, rfl⟩) | (go_at_call 66; refine (isLine_any _ _).mono ?_; rintro e w' ⟨rfl, rfl⟩) | (go_at_call 67; refine (IsTincture_any _ _).mono ?_; rintro e w' ⟨rfl, rfl⟩) | (go_at_call 31; refine (l1In_any _ _ _ _).mono ?_; rintro e w' ⟨rfl, rfl⟩) | (go_at_call 44; refine (l3Line_any _ _).mono ?_; rintro e w' ⟨rfl, rfl⟩) | (go_at_call 45; refine (l2Good_any _ _).mono ?_; rintro e w' ⟨rfl, rfl⟩) | fail)
  all_goals go_ret
  all_goals refine ⟨ret_bool ?_, ?_⟩
  all_goals first | ((repeat (first | exact Below.refl _ _ | assumption | refine Below_al ?_ _ | refine Below.drew ?_ | refine Below_then ?_ (by assumption) | refine Below.setCell ?_ (by first | omega | (simp; done) | (simp; omega)) _)); done) | (first | rfl | (simp [fieldOk]; done) | (simp [fieldOk]; omega) | (simp_all [fieldOk]; done) | (simp_all [fieldOk]; omega) | (rw [Bool.eq_iff_iff]; simp [fieldOk]; omega) | (rw [Bool.eq_iff_iff]; simp_all [fieldOk]; omega) | (rw [Bool.eq_iff_iff]; simp [fieldOk] at *; omega))
theorem l3Good_any (d l p q : Int) (w : World) :
    Calls Try.prog 42 #[.agg #[.int .i64 d, .int .i64 l, .int .i64 p, .int .i64 q]] w fun e w' => e = .returned (.bool (fieldOk d l p q)) ∧ Below w.heap.size w w' := by
  go_enter Try.func42, Try.ntmps42
  go_wp2_with (first | (go_at_call 36; refine (inside_any _ _ _ _).mono ?_; rintro e w' ⟨rfl, rfl⟩) | (go_at_call 66; refine (isLine_any _ _).mono ?_; rintro e w' ⟨rfl, rfl⟩) | (go_at_call 67; refine (IsTincture_any _ _).mono ?_; rintro e w' ⟨rfl, rfl⟩) | (go_at_call 31; refine (l1In_any _ _ _ _).mono ?_; rintro e w' ⟨rfl, rfl⟩) | (go_at_call 44; refine (l3Line_any _ _).mono ?_; rintro e w' ⟨rfl, rfl⟩) | (go_at_call 45; refine (l2Good_any _ _).mono ?_; rintro e w' ⟨rfl, rfl⟩) | fail)
  all_goals go_ret
  all_goals refine ⟨ret_bool ?_, ?_⟩
  all_goals first | ((repeat (first | exact Below.refl _ _ | assumption | refine Below_al ?_ _ | refine Below.drew ?_ | refine Below_then ?_ (by assumption) | refine Below.setCell ?_ (by first | omega | (simp; done) | (simp; omega)) _)); done) | (first | rfl | (simp [fieldOk]; done) | (simp [fieldOk]; omega) | (simp_all [fieldOk]; done) | (simp_all [fieldOk]; omega) | (rw [Bool.eq_iff_iff]; simp [fieldOk]; omega) | (rw [Bool.eq_iff_iff]; simp_all [fieldOk]; omega) | (rw [Bool.eq_iff_iff]; simp [fieldOk] at *; omega))

def groupOk (c k a t : Int) : Bool := decide ((1 ≤ c ∧ c ≤ 6) ∧ (1 ≤ k ∧ k ≤ 8) ∧ (1 ≤ t ∧ t ≤ 9) ∧ (k ≤ 3 ∧ 1 ≤ a ∧ a ≤ 2 ∨ 3 < k ∧ a = 0))
def groupNone (c k a t : Int) : Bool := decide (c = 0 ∧ k = 0 ∧ a = 0 ∧ t = 0)
theorem isKind_any (x : Int) (w : World) :
    Calls Try.prog 84 #[.int .i64 x] w fun e w' => e = .returned (.bool (decide (1 ≤ x ∧ x ≤ 8))) ∧ w = w' := by
  go_enter Try.func84, Try.ntmps84
  go_wp2_with (first | (go_at_call 36; refine (inside_any _ _ _ _).mono ?_; rintro e w' ⟨rfl, rfl⟩) | fail)
  go_ret
  exact ⟨by first | rfl | simp, rfl⟩
theorem l4Kind_any (x : Int) (w : World) :
    Calls Try.prog 62 #[.int .i64 x] w fun e w' => e = .returned (.bool (decide (1 ≤ x ∧ x ≤ 8))) ∧ w = w' := by
  go_enter Try.func62, Try.ntmps62
  go_wp2_with (first | (go_at_call 31; refine (l1In_any _ _ _ _).mono ?_; rintro e w' ⟨rfl, rfl⟩) | fail)
  go_ret
  exact ⟨by first | rfl | simp, rfl⟩
theorem l4Beast_any (x : Int) (w : World) :
    Calls Try.prog 63 #[.int .i64 x] w fun e w' => e = .returned (.bool (decide (x ≤ 3))) ∧ w = w' := by
  go_enter Try.func63, Try.ntmps63
  go_wp2
  go_ret
  exact ⟨rfl, rfl⟩
/-- How many words it hands back is all that is asked of it here. -/
def FreshLen (w : World) (n : Nat) (e : Ending) (w' : World) : Prop :=
  ∃ a, e = .returned (.slice a n n) ∧ Below w.heap.size w w'
theorem attitudes_len (k : Int) (h1 : 1 ≤ k) (h8 : k ≤ 8) (w : World) :
    Calls Try.prog 85 #[.int .i64 k] w (FreshLen w (if k ≤ 3 then 2 else 0)) := by
  by_cases h3 : k ≤ 3
  · rw [if_pos h3]
    have hc : k = 1 ∨ k = 2 ∨ k = 3 := by omega
    clear h1 h8 h3
    rcases hc with rfl | rfl | rfl
    all_goals
      go_enter Try.func85, Try.ntmps85
      go_wp2
      go_ret
      refine ⟨_, rfl, ?_⟩
      (repeat (first | exact Below.refl _ _ | assumption | refine Below_al ?_ _ | refine Below.drew ?_ | refine Below_then ?_ (by assumption) | refine Below.setCell ?_ (by first | omega | (simp; done) | (simp; omega)) _))
  · rw [if_neg h3]
    go_enter Try.func85, Try.ntmps85
    go_wp2
    go_ret
    refine ⟨_, rfl, ?_⟩
    (repeat (first | exact Below.refl _ _ | assumption | refine Below_al ?_ _ | refine Below.drew ?_ | refine Below_then ?_ (by assumption) | refine Below.setCell ?_ (by first | omega | (simp; done) | (simp; omega)) _))
theorem l4None_any (c k a t : Int) (w : World) :
    Calls Try.prog 20 #[.agg #[.int .i64 c, .int .i64 k, .int .i64 a, .int .i64 t]] w fun e w' => e = .returned (.bool (groupNone c k a t)) ∧ Below w.heap.size w w' := by
  go_enter Try.func20, Try.ntmps20
  go_wp2
  all_goals go_ret
  all_goals refine ⟨ret_bool ?_, ?_⟩
  all_goals first | ((repeat (first | exact Below.refl _ _ | assumption | refine Below_al ?_ _ | refine Below.drew ?_ | refine Below_then ?_ (by assumption) | refine Below.setCell ?_ (by first | omega | (simp; done) | (simp; omega)) _)); done) | (first | rfl | (simp [groupNone]; done) | (simp [groupNone]; omega) | (simp_all [groupNone]; done) | (simp_all [groupNone]; omega) | (rw [Bool.eq_iff_iff]; simp [groupNone]; omega) | (rw [Bool.eq_iff_iff]; simp_all [groupNone]; omega) | (rw [Bool.eq_iff_iff]; simp [groupNone] at *; omega))
theorem l4Group_any (c k a t : Int) (w : World) :
    Calls Try.prog 43 #[.agg #[.int .i64 c, .int .i64 k, .int .i64 a, .int .i64 t]] w fun e w' => e = .returned (.bool (groupOk c k a t)) ∧ Below w.heap.size w w' := by
  go_enter Try.func43, Try.ntmps43
  go_wp2_with (first | (go_at_call 36; refine (inside_any _ _ _ _).mono ?_; rintro e w' ⟨rfl, rfl⟩) | (go_at_call 84; refine (isKind_any _ _).mono ?_; rintro e w' ⟨rfl, rfl⟩) | (go_at_call 67; refine (IsTincture_any _ _).mono ?_; rintro e w' ⟨rfl, rfl⟩) | (go_at_call 31; refine (l1In_any _ _ _ _).mono ?_; rintro e w' ⟨rfl, rfl⟩) | (go_at_call 62; refine (l4Kind_any _ _).mono ?_; rintro e w' ⟨rfl, rfl⟩) | (go_at_call 63; refine (l4Beast_any _ _).mono ?_; rintro e w' ⟨rfl, rfl⟩) | (go_at_call 45; refine (l2Good_any _ _).mono ?_; rintro e w' ⟨rfl, rfl⟩) | (go_at_call 85; refine (attitudes_len _ (by omega) (by omega) _).mono ?_; rintro e w1 ⟨A, rfl, hb1⟩) | fail)
  all_goals go_ret
  all_goals refine ⟨ret_bool ?_, ?_⟩
  all_goals first | ((repeat (first | exact Below.refl _ _ | assumption | refine Below_al ?_ _ | refine Below.drew ?_ | refine Below_then ?_ (by assumption) | refine Below.setCell ?_ (by first | omega | (simp; done) | (simp; omega)) _)); done) | (first | rfl | (simp [groupOk]; done) | (simp [groupOk]; omega) | (simp_all [groupOk]; done) | (simp_all [groupOk]; omega) | (rw [Bool.eq_iff_iff]; simp [groupOk]; omega) | (rw [Bool.eq_iff_iff]; simp_all [groupOk]; omega) | (rw [Bool.eq_iff_iff]; simp [groupOk] at *; omega))
theorem IsValidGroup_any (c k a t : Int) (w : World) :
    Calls Try.prog 68 #[.agg #[.int .i64 c, .int .i64 k, .int .i64 a, .int .i64 t]] w fun e w' => e = .returned (.bool (groupOk c k a t)) ∧ Below w.heap.size w w' := by
  by_cases h3 : k ≤ 3
  all_goals
    go_enter Try.func68, Try.ntmps68
    go_wp2_with (first | (go_at_call 36; refine (inside_any _ _ _ _).mono ?_; rintro e w' ⟨rfl, rfl⟩) | (go_at_call 84; refine (isKind_any _ _).mono ?_; rintro e w' ⟨rfl, rfl⟩) | (go_at_call 67; refine (IsTincture_any _ _).mono ?_; rintro e w' ⟨rfl, rfl⟩) | (go_at_call 31; refine (l1In_any _ _ _ _).mono ?_; rintro e w' ⟨rfl, rfl⟩) | (go_at_call 62; refine (l4Kind_any _ _).mono ?_; rintro e w' ⟨rfl, rfl⟩) | (go_at_call 63; refine (l4Beast_any _ _).mono ?_; rintro e w' ⟨rfl, rfl⟩) | (go_at_call 45; refine (l2Good_any _ _).mono ?_; rintro e w' ⟨rfl, rfl⟩) | (go_at_call 85; refine (attitudes_len _ (by omega) (by omega) _).mono ?_; rintro e w1 ⟨A, rfl, hb1⟩; obtain ⟨hc1, hf1⟩ := bcell hb1) | fail)
    all_goals go_ret
    all_goals refine ⟨ret_bool ?_, ?_⟩
    all_goals first | ((repeat (first | exact Below.refl _ _ | assumption | refine Below_al ?_ _ | refine Below.drew ?_ | refine Below_then ?_ (by assumption) | refine Below.setCell ?_ (by first | omega | (simp; done) | (simp; omega)) _)); done) | (first | rfl | (simp [groupOk]; done) | (simp [groupOk]; omega) | (simp_all [groupOk]; done) | (simp_all [groupOk]; omega) | (rw [Bool.eq_iff_iff]; simp [groupOk]; omega) | (rw [Bool.eq_iff_iff]; simp_all [groupOk]; omega) | (rw [Bool.eq_iff_iff]; simp [groupOk] at *; omega))
end Go.Proofs.Ytjodoljgpdbimaa
