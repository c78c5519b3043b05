/- Contracts: which tinctures, fields, groups and arms are valid. -/
import Derived.Test.YtlonnkmfjijddaaGreatDoorParts
import Derived.Laws.StructEq
namespace Go.Proofs.YtlonnkmfjijddaaGreatDoor
open Go.ChangeShapes Go.WideShapes Go.ChangeAt Go.RowKit

def fieldOk (d l p q : Int) : Bool := decide ((0 ≤ d ∧ d ≤ 7) ∧ (0 ≤ l ∧ l ≤ 4) ∧ (1 ≤ p ∧ p ≤ 9) ∧ (d = 0 ∧ l = 0 ∧ q = 0 ∨ d ≠ 0 ∧ (1 ≤ q ∧ q ≤ 9) ∧ q ≠ p))
theorem IsTincture_any (x : Int) (w : World) :
    Calls Tryz.prog 78 #[.int .i64 x] w fun e w' => e = .returned (.bool (decide (1 ≤ x ∧ x ≤ 9))) ∧ w = w' := by
  go_enter Tryz.func78, Tryz.ntmps78
  go_wp2_with (first | (go_at_call 37; refine (inside_any _ _ _ _).mono ?_; rintro e w' ⟨rfl, rfl⟩) | fail)
  go_ret
  exact ⟨by first | rfl | simp, rfl⟩
theorem l2Good_any (x : Int) (w : World) :
    Calls Tryz.prog 72 #[.int .i64 x] w fun e w' => e = .returned (.bool (decide (1 ≤ x ∧ x ≤ 9))) ∧ w = w' := by
  go_enter Tryz.func72, Tryz.ntmps72
  go_wp2_with (first | (go_at_call 50; refine (l1In_any _ _ _ _).mono ?_; rintro e w' ⟨rfl, rfl⟩) | fail)
  go_ret
  exact ⟨by first | rfl | simp, rfl⟩
theorem IsValidField_any (d l p q : Int) (w : World) :
    Calls Tryz.prog 56 #[.agg #[.int .i64 d, .int .i64 l, .int .i64 p, .int .i64 q]] w fun e w' => e = .returned (.bool (fieldOk d l p q)) ∧ Below w.heap.size w w' := by
  go_enter Tryz.func56, Tryz.ntmps56
  go_wp2_with (first | (go_at_call 37; refine (inside_any _ _ _ _).mono ?_; rintro e w' ⟨rfl, rfl⟩) | (go_at_call 77; refine (isLine_any _ _).mono ?_; rintro e w' ⟨rfl, rfl⟩) | (go_at_call 78; refine (IsTincture_any _ _).mono ?_; rintro e w' ⟨rfl, rfl⟩) | (go_at_call 50; refine (l1In_any _ _ _ _).mono ?_; rintro e w' ⟨rfl, rfl⟩) | (go_at_call 71; refine (l3Line_any _ _).mono ?_; rintro e w' ⟨rfl, rfl⟩) | (go_at_call 72; refine (l2Good_any _ _).mono ?_; rintro e w' ⟨rfl, rfl⟩) | fail)
  all_goals go_ret
  all_goals refine ⟨ret_bool ?_, ?_⟩
  all_goals first | ((repeat (first | exact Below.refl _ _ | assumption | refine Below_al ?_ _ | refine Below.drew ?_ | refine Below_then ?_ (by assumption) | refine Below.setCell ?_ (by first | omega | (simp; done) | (simp; omega)) _)); done) | (first | rfl | (simp [fieldOk]; done) | (simp [fieldOk]; omega) | (simp_all [fieldOk]; done) | (simp_all [fieldOk]; omega) | (rw [Bool.eq_iff_iff]; simp [fieldOk]; omega) | (rw [Bool.eq_iff_iff]; simp_all [fieldOk]; omega) | (rw [Bool.eq_iff_iff]; simp [fieldOk] at *; omega))
theorem l3Good_any (d l p q : Int) (w : World) :
    Calls Tryz.prog 69 #[.agg #[.int .i64 d, .int .i64 l, .int .i64 p, .int .i64 q]] w fun e w' => e = .returned (.bool (fieldOk d l p q)) ∧ Below w.heap.size w w' := by
  go_enter Tryz.func69, Tryz.ntmps69
  go_wp2_with (first | (go_at_call 37; refine (inside_any _ _ _ _).mono ?_; rintro e w' ⟨rfl, rfl⟩) | (go_at_call 77; refine (isLine_any _ _).mono ?_; rintro e w' ⟨rfl, rfl⟩) | (go_at_call 78; refine (IsTincture_any _ _).mono ?_; rintro e w' ⟨rfl, rfl⟩) | (go_at_call 50; refine (l1In_any _ _ _ _).mono ?_; rintro e w' ⟨rfl, rfl⟩) | (go_at_call 71; refine (l3Line_any _ _).mono ?_; rintro e w' ⟨rfl, rfl⟩) | (go_at_call 72; refine (l2Good_any _ _).mono ?_; rintro e w' ⟨rfl, rfl⟩) | fail)
  all_goals go_ret
  all_goals refine ⟨ret_bool ?_, ?_⟩
  all_goals first | ((repeat (first | exact Below.refl _ _ | assumption | refine Below_al ?_ _ | refine Below.drew ?_ | refine Below_then ?_ (by assumption) | refine Below.setCell ?_ (by first | omega | (simp; done) | (simp; omega)) _)); done) | (first | rfl | (simp [fieldOk]; done) | (simp [fieldOk]; omega) | (simp_all [fieldOk]; done) | (simp_all [fieldOk]; omega) | (rw [Bool.eq_iff_iff]; simp [fieldOk]; omega) | (rw [Bool.eq_iff_iff]; simp_all [fieldOk]; omega) | (rw [Bool.eq_iff_iff]; simp [fieldOk] at *; omega))

def groupOk (c k a t : Int) : Bool := decide ((1 ≤ c ∧ c ≤ 6) ∧ (1 ≤ k ∧ k ≤ 8) ∧ (1 ≤ t ∧ t ≤ 9) ∧ (k ≤ 3 ∧ 1 ≤ a ∧ a ≤ 2 ∨ 3 < k ∧ a = 0))
def groupNone (c k a t : Int) : Bool := decide (c = 0 ∧ k = 0 ∧ a = 0 ∧ t = 0)
theorem isKind_any (x : Int) (w : World) :
    Calls Tryz.prog 100 #[.int .i64 x] w fun e w' => e = .returned (.bool (decide (1 ≤ x ∧ x ≤ 8))) ∧ w = w' := by
  go_enter Tryz.func100, Tryz.ntmps100
  go_wp2_with (first | (go_at_call 37; refine (inside_any _ _ _ _).mono ?_; rintro e w' ⟨rfl, rfl⟩) | fail)
  go_ret
  exact ⟨by first | rfl | simp, rfl⟩
theorem l4Kind_any (x : Int) (w : World) :
    Calls Tryz.prog 97 #[.int .i64 x] w fun e w' => e = .returned (.bool (decide (1 ≤ x ∧ x ≤ 8))) ∧ w = w' := by
  go_enter Tryz.func97, Tryz.ntmps97
  go_wp2_with (first | (go_at_call 50; refine (l1In_any _ _ _ _).mono ?_; rintro e w' ⟨rfl, rfl⟩) | fail)
  go_ret
  exact ⟨by first | rfl | simp, rfl⟩
theorem l4Beast_any (x : Int) (w : World) :
    Calls Tryz.prog 98 #[.int .i64 x] w fun e w' => e = .returned (.bool (decide (x ≤ 3))) ∧ w = w' := by
  go_enter Tryz.func98, Tryz.ntmps98
  go_wp2
  go_ret
  exact ⟨rfl, rfl⟩
/-- How many words it hands back is all that is asked of it here. -/
def FreshLen (w : World) (n : Nat) (e : Ending) (w' : World) : Prop :=
  ∃ a, e = .returned (.slice a n n) ∧ Below w.heap.size w w'
theorem attitudes_len (k : Int) (h1 : 1 ≤ k) (h8 : k ≤ 8) (w : World) :
    Calls Tryz.prog 101 #[.int .i64 k] w (FreshLen w (if k ≤ 3 then 2 else 0)) := by
  by_cases h3 : k ≤ 3
  · rw [if_pos h3]
    have hc : k = 1 ∨ k = 2 ∨ k = 3 := by omega
    clear h1 h8 h3
    rcases hc with rfl | rfl | rfl
    all_goals
      go_enter Tryz.func101, Tryz.ntmps101
      go_wp2
      go_ret
      refine ⟨_, rfl, ?_⟩
      (repeat (first | exact Below.refl _ _ | assumption | refine Below_al ?_ _ | refine Below.drew ?_ | refine Below_then ?_ (by assumption) | refine Below.setCell ?_ (by first | omega | (simp; done) | (simp; omega)) _))
  · rw [if_neg h3]
    go_enter Tryz.func101, Tryz.ntmps101
    go_wp2
    go_ret
    refine ⟨_, rfl, ?_⟩
    (repeat (first | exact Below.refl _ _ | assumption | refine Below_al ?_ _ | refine Below.drew ?_ | refine Below_then ?_ (by assumption) | refine Below.setCell ?_ (by first | omega | (simp; done) | (simp; omega)) _))
theorem l4None_any (c k a t : Int) (w : World) :
    Calls Tryz.prog 35 #[.agg #[.int .i64 c, .int .i64 k, .int .i64 a, .int .i64 t]] w fun e w' => e = .returned (.bool (groupNone c k a t)) ∧ Below w.heap.size w w' := by
  go_enter Tryz.func35, Tryz.ntmps35
  go_wp2
  all_goals go_ret
  all_goals refine ⟨ret_bool ?_, ?_⟩
  all_goals first | ((repeat (first | exact Below.refl _ _ | assumption | refine Below_al ?_ _ | refine Below.drew ?_ | refine Below_then ?_ (by assumption) | refine Below.setCell ?_ (by first | omega | (simp; done) | (simp; omega)) _)); done) | (first | rfl | (simp [groupNone]; done) | (simp [groupNone]; omega) | (simp_all [groupNone]; done) | (simp_all [groupNone]; omega) | (rw [Bool.eq_iff_iff]; simp [groupNone]; omega) | (rw [Bool.eq_iff_iff]; simp_all [groupNone]; omega) | (rw [Bool.eq_iff_iff]; simp [groupNone] at *; omega))
theorem l4Group_any (c k a t : Int) (w : World) :
    Calls Tryz.prog 70 #[.agg #[.int .i64 c, .int .i64 k, .int .i64 a, .int .i64 t]] w fun e w' => e = .returned (.bool (groupOk c k a t)) ∧ Below w.heap.size w w' := by
  go_enter Tryz.func70, Tryz.ntmps70
  go_wp2_with (first | (go_at_call 37; refine (inside_any _ _ _ _).mono ?_; rintro e w' ⟨rfl, rfl⟩) | (go_at_call 100; refine (isKind_any _ _).mono ?_; rintro e w' ⟨rfl, rfl⟩) | (go_at_call 78; refine (IsTincture_any _ _).mono ?_; rintro e w' ⟨rfl, rfl⟩) | (go_at_call 50; refine (l1In_any _ _ _ _).mono ?_; rintro e w' ⟨rfl, rfl⟩) | (go_at_call 97; refine (l4Kind_any _ _).mono ?_; rintro e w' ⟨rfl, rfl⟩) | (go_at_call 98; refine (l4Beast_any _ _).mono ?_; rintro e w' ⟨rfl, rfl⟩) | (go_at_call 72; refine (l2Good_any _ _).mono ?_; rintro e w' ⟨rfl, rfl⟩) | (go_at_call 101; refine (attitudes_len _ (by omega) (by omega) _).mono ?_; rintro e w1 ⟨A, rfl, hb1⟩) | fail)
  all_goals go_ret
  all_goals refine ⟨ret_bool ?_, ?_⟩
  all_goals first | ((repeat (first | exact Below.refl _ _ | assumption | refine Below_al ?_ _ | refine Below.drew ?_ | refine Below_then ?_ (by assumption) | refine Below.setCell ?_ (by first | omega | (simp; done) | (simp; omega)) _)); done) | (first | rfl | (simp [groupOk]; done) | (simp [groupOk]; omega) | (simp_all [groupOk]; done) | (simp_all [groupOk]; omega) | (rw [Bool.eq_iff_iff]; simp [groupOk]; omega) | (rw [Bool.eq_iff_iff]; simp_all [groupOk]; omega) | (rw [Bool.eq_iff_iff]; simp [groupOk] at *; omega))
theorem IsValidGroup_any (c k a t : Int) (w : World) :
    Calls Tryz.prog 79 #[.agg #[.int .i64 c, .int .i64 k, .int .i64 a, .int .i64 t]] w fun e w' => e = .returned (.bool (groupOk c k a t)) ∧ Below w.heap.size w w' := by
  by_cases h3 : k ≤ 3
  all_goals
    go_enter Tryz.func79, Tryz.ntmps79
    go_wp2_with (first | (go_at_call 37; refine (inside_any _ _ _ _).mono ?_; rintro e w' ⟨rfl, rfl⟩) | (go_at_call 100; refine (isKind_any _ _).mono ?_; rintro e w' ⟨rfl, rfl⟩) | (go_at_call 78; refine (IsTincture_any _ _).mono ?_; rintro e w' ⟨rfl, rfl⟩) | (go_at_call 50; refine (l1In_any _ _ _ _).mono ?_; rintro e w' ⟨rfl, rfl⟩) | (go_at_call 97; refine (l4Kind_any _ _).mono ?_; rintro e w' ⟨rfl, rfl⟩) | (go_at_call 98; refine (l4Beast_any _ _).mono ?_; rintro e w' ⟨rfl, rfl⟩) | (go_at_call 72; refine (l2Good_any _ _).mono ?_; rintro e w' ⟨rfl, rfl⟩) | (go_at_call 101; refine (attitudes_len _ (by omega) (by omega) _).mono ?_; rintro e w1 ⟨A, rfl, hb1⟩; obtain ⟨hc1, hf1⟩ := bcell hb1) | fail)
    all_goals go_ret
    all_goals refine ⟨ret_bool ?_, ?_⟩
    all_goals first | ((repeat (first | exact Below.refl _ _ | assumption | refine Below_al ?_ _ | refine Below.drew ?_ | refine Below_then ?_ (by assumption) | refine Below.setCell ?_ (by first | omega | (simp; done) | (simp; omega)) _)); done) | (first | rfl | (simp [groupOk]; done) | (simp [groupOk]; omega) | (simp_all [groupOk]; done) | (simp_all [groupOk]; omega) | (rw [Bool.eq_iff_iff]; simp [groupOk]; omega) | (rw [Bool.eq_iff_iff]; simp_all [groupOk]; omega) | (rw [Bool.eq_iff_iff]; simp [groupOk] at *; omega))
end Go.Proofs.YtlonnkmfjijddaaGreatDoor
