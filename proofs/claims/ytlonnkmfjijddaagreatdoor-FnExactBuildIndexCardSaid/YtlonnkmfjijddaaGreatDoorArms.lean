/- Contracts: which arms are valid. -/
import Derived.Test.YtlonnkmfjijddaaGreatDoorFields
namespace Go.Proofs.YtlonnkmfjijddaaGreatDoor
open Go.ChangeShapes Go.WideShapes Go.ChangeAt Go.RowKit

/-- Arms as numbers: field, ordinary, line, tincture, the groups on and around. -/
structure ArmsD where
  d : Int
  l : Int
  p : Int
  q : Int
  o : Int
  li : Int
  t : Int
  c1 : Int
  k1 : Int
  a1 : Int
  t1 : Int
  c2 : Int
  k2 : Int
  a2 : Int
  t2 : Int
def groupAny (c k a t : Int) : Bool := groupNone c k a t || groupOk c k a t
def ordOk (o l t : Int) : Bool := decide ((1 ≤ o ∧ o ≤ 7) ∧ (0 ≤ l ∧ l ≤ 4) ∧ (1 ≤ t ∧ t ≤ 9))
def armsOk (a : ArmsD) : Bool := fieldOk a.d a.l a.p a.q && groupAny a.c2 a.k2 a.a2 a.t2 && (if a.o = 0 then decide (a.li = 0) && decide (a.t = 0) && groupNone a.c1 a.k1 a.a1 a.t1 else ordOk a.o a.li a.t && groupAny a.c1 a.k1 a.a1 a.t1)
theorem isGroup_any (c k a t : Int) (w : World) :
    Calls Tryz.prog 57 #[.agg #[.int .i64 c, .int .i64 k, .int .i64 a, .int .i64 t]] w fun e w' => e = .returned (.bool (groupAny c k a t)) ∧ Below w.heap.size w w' := by
  by_cases hn : c = 0 ∧ k = 0 ∧ a = 0 ∧ t = 0
  · obtain ⟨rfl, rfl, rfl, rfl⟩ := hn
    rw [show groupAny 0 0 0 0 = true from rfl]
    go_enter Tryz.func57, Tryz.ntmps57
    go_wp2
    go_ret
    exact ⟨rfl, by (repeat (first | exact Below.refl _ _ | assumption | refine Below_al ?_ _ | refine Below.drew ?_ | refine Below_then ?_ (by assumption) | refine Below.setCell ?_ (by first | omega | (simp; done) | (simp; omega)) _))⟩
  · have hg : groupNone c k a t = false := by simp [groupNone]; omega
    unfold groupAny
    rw [hg, Bool.false_or]
    have HN := Lib.hid hn
    clear hn hg
    go_enter Tryz.func57, Tryz.ntmps57
    go_wp2_with (first | (go_at_call 79; refine (IsValidGroup_any _ _ _ _ _).mono ?_; rintro e w1 ⟨rfl, hb1⟩) | fail)
    all_goals go_ret
    all_goals first | (exfalso; have hn := HN.out; omega) | exact ⟨ret_bool (by simp only [*]), by (repeat (first | exact Below.refl _ _ | assumption | refine Below_al ?_ _ | refine Below.drew ?_ | refine Below_then ?_ (by assumption) | refine Below.setCell ?_ (by first | omega | (simp; done) | (simp; omega)) _))⟩
theorem isOrdinary_any (o l t : Int) (w : World) :
    Calls Tryz.prog 58 #[.int .i64 o, .int .i64 l, .int .i64 t] w fun e w' => e = .returned (.bool (ordOk o l t)) ∧ w = w' := by
  go_enter Tryz.func58, Tryz.ntmps58
  go_wp2_with (first | (go_at_call 37; refine (inside_any _ _ _ _).mono ?_; rintro e w' ⟨rfl, rfl⟩) | (go_at_call 77; refine (isLine_any _ _).mono ?_; rintro e w' ⟨rfl, rfl⟩) | (go_at_call 78; refine (IsTincture_any _ _).mono ?_; rintro e w' ⟨rfl, rfl⟩) | fail)
  all_goals go_ret
  all_goals refine ⟨ret_bool ?_, rfl⟩
  all_goals (first | rfl | (simp [ordOk]; done) | (simp [ordOk]; omega) | (simp_all [ordOk]; done) | (simp_all [ordOk]; omega) | (rw [Bool.eq_iff_iff]; simp [ordOk]; omega) | (rw [Bool.eq_iff_iff]; simp_all [ordOk]; omega) | (rw [Bool.eq_iff_iff]; simp [ordOk] at *; omega))
theorem armsOk_1 {a : ArmsD} (h1 : fieldOk a.d a.l a.p a.q = false) : armsOk a = false := by simp [armsOk, h1]
theorem armsOk_2 {a : ArmsD} (h2 : groupAny a.c2 a.k2 a.a2 a.t2 = false) : armsOk a = false := by simp [armsOk, h2]
theorem armsOk_3 {a : ArmsD} (h1 : fieldOk a.d a.l a.p a.q = true) (h2 : groupAny a.c2 a.k2 a.a2 a.t2 = true) (h3 : a.o = 0) (h4 : a.li = 0 ∧ a.t = 0 ∧ a.c1 = 0 ∧ a.k1 = 0 ∧ a.a1 = 0 ∧ a.t1 = 0) : armsOk a = true := by
  obtain ⟨e1, e2, e3, e4, e5, e6⟩ := h4
  simp [armsOk, h1, h2, h3, e1, e2, e3, e4, e5, e6, groupNone]
theorem armsOk_4 {a : ArmsD} (h3 : a.o = 0) (h4 : ¬ (a.li = 0 ∧ a.t = 0 ∧ a.c1 = 0 ∧ a.k1 = 0 ∧ a.a1 = 0 ∧ a.t1 = 0)) : armsOk a = false := by
  simp [armsOk, h3, groupNone]
  intro _ _ _ _ _ _ _ _
  exact h4 ⟨by assumption, by assumption, by assumption, by assumption, by assumption, by assumption⟩
theorem armsOk_5 {a : ArmsD} (h3 : ¬ a.o = 0) (h5 : ordOk a.o a.li a.t = false) : armsOk a = false := by simp [armsOk, h3, h5]
theorem armsOk_6 {a : ArmsD} (h1 : fieldOk a.d a.l a.p a.q = true) (h2 : groupAny a.c2 a.k2 a.a2 a.t2 = true) (h3 : ¬ a.o = 0) (h5 : ordOk a.o a.li a.t = true) : armsOk a = groupAny a.c1 a.k1 a.a1 a.t1 := by simp [armsOk, h1, h2, h3, h5]
set_option maxHeartbeats 4000000 in
theorem IsValidArms_any (a : ArmsD) (w : World) :
    Calls Tryz.prog 39 #[.agg #[.int .i64 a.d, .int .i64 a.l, .int .i64 a.p, .int .i64 a.q, .int .i64 a.o, .int .i64 a.li, .int .i64 a.t, .int .i64 a.c1, .int .i64 a.k1, .int .i64 a.a1, .int .i64 a.t1, .int .i64 a.c2, .int .i64 a.k2, .int .i64 a.a2, .int .i64 a.t2]] w fun e w' => e = .returned (.bool (armsOk a)) ∧ Below w.heap.size w w' := by
  cases h1 : fieldOk a.d a.l a.p a.q
  · rw [armsOk_1 h1]
    go_enter Tryz.func39, Tryz.ntmps39
    go_wp2_with (first | (go_at_call 37; refine (inside_any _ _ _ _).mono ?_; rintro e w' ⟨rfl, rfl⟩) | (go_at_call 77; refine (isLine_any _ _).mono ?_; rintro e w' ⟨rfl, rfl⟩) | (go_at_call 78; refine (IsTincture_any _ _).mono ?_; rintro e w' ⟨rfl, rfl⟩) | (go_at_call 50; refine (l1In_any _ _ _ _).mono ?_; rintro e w' ⟨rfl, rfl⟩) | (go_at_call 71; refine (l3Line_any _ _).mono ?_; rintro e w' ⟨rfl, rfl⟩) | (go_at_call 72; refine (l2Good_any _ _).mono ?_; rintro e w' ⟨rfl, rfl⟩) | (go_at_call 58; refine (isOrdinary_any _ _ _ _).mono ?_; rintro e w' ⟨rfl, rfl⟩) | (go_at_call 56; refine (IsValidField_any _ _ _ _ _).mono ?_; rintro e w1 ⟨rfl, hb1⟩; obtain ⟨hc1, hf1⟩ := bcell hb1; have hz1 : w.heap.size < w1.heap.size := Nat.lt_of_lt_of_le (by first | assumption | simp) hb1.size) | (go_at_call 69; refine (l3Good_any _ _ _ _ _).mono ?_; rintro e w1 ⟨rfl, hb1⟩; obtain ⟨hc1, hf1⟩ := bcell hb1; have hz1 : w.heap.size < w1.heap.size := Nat.lt_of_lt_of_le (by first | assumption | simp) hb1.size) | (go_at_call 57; refine (isGroup_any _ _ _ _ _).mono ?_; rintro e w1 ⟨rfl, hb1⟩; obtain ⟨hc1, hf1⟩ := bcell hb1; have hz1 : w.heap.size < w1.heap.size := Nat.lt_of_lt_of_le (by first | assumption | simp) hb1.size) | (go_at_call 35; refine (l4None_any _ _ _ _ _).mono ?_; rintro e w1 ⟨rfl, hb1⟩; obtain ⟨hc1, hf1⟩ := bcell hb1; have hz1 : w.heap.size < w1.heap.size := Nat.lt_of_lt_of_le (by first | assumption | simp) hb1.size) | (go_at_call 70; refine (l4Group_any _ _ _ _ _).mono ?_; rintro e w1 ⟨rfl, hb1⟩; obtain ⟨hc1, hf1⟩ := bcell hb1; have hz1 : w.heap.size < w1.heap.size := Nat.lt_of_lt_of_le (by first | assumption | simp) hb1.size) | (go_at_call 79; refine (IsValidGroup_any _ _ _ _ _).mono ?_; rintro e w1 ⟨rfl, hb1⟩; obtain ⟨hc1, hf1⟩ := bcell hb1; have hz1 : w.heap.size < w1.heap.size := Nat.lt_of_lt_of_le (by first | assumption | simp) hb1.size) | fail)
    all_goals go_ret
    all_goals first | exact ⟨rfl, by (repeat (first | exact Below.refl _ _ | assumption | refine Below_al ?_ _ | refine Below.drew ?_ | refine Below_then ?_ (by assumption) | refine Below.setCell ?_ (by first | omega | (simp; done) | (simp; omega)) _))⟩ | (exfalso; omega) | (exfalso; simp_all; done)
  · cases h2 : groupAny a.c2 a.k2 a.a2 a.t2
    · rw [armsOk_2 h2]
      go_enter Tryz.func39, Tryz.ntmps39
      go_wp2_with (first | (go_at_call 37; refine (inside_any _ _ _ _).mono ?_; rintro e w' ⟨rfl, rfl⟩) | (go_at_call 77; refine (isLine_any _ _).mono ?_; rintro e w' ⟨rfl, rfl⟩) | (go_at_call 78; refine (IsTincture_any _ _).mono ?_; rintro e w' ⟨rfl, rfl⟩) | (go_at_call 50; refine (l1In_any _ _ _ _).mono ?_; rintro e w' ⟨rfl, rfl⟩) | (go_at_call 71; refine (l3Line_any _ _).mono ?_; rintro e w' ⟨rfl, rfl⟩) | (go_at_call 72; refine (l2Good_any _ _).mono ?_; rintro e w' ⟨rfl, rfl⟩) | (go_at_call 58; refine (isOrdinary_any _ _ _ _).mono ?_; rintro e w' ⟨rfl, rfl⟩) | (go_at_call 56; refine (IsValidField_any _ _ _ _ _).mono ?_; rintro e w1 ⟨rfl, hb1⟩; obtain ⟨hc1, hf1⟩ := bcell hb1; have hz1 : w.heap.size < w1.heap.size := Nat.lt_of_lt_of_le (by first | assumption | simp) hb1.size) | (go_at_call 69; refine (l3Good_any _ _ _ _ _).mono ?_; rintro e w1 ⟨rfl, hb1⟩; obtain ⟨hc1, hf1⟩ := bcell hb1; have hz1 : w.heap.size < w1.heap.size := Nat.lt_of_lt_of_le (by first | assumption | simp) hb1.size) | (go_at_call 57; refine (isGroup_any _ _ _ _ _).mono ?_; rintro e w1 ⟨rfl, hb1⟩; obtain ⟨hc1, hf1⟩ := bcell hb1; have hz1 : w.heap.size < w1.heap.size := Nat.lt_of_lt_of_le (by first | assumption | simp) hb1.size) | (go_at_call 35; refine (l4None_any _ _ _ _ _).mono ?_; rintro e w1 ⟨rfl, hb1⟩; obtain ⟨hc1, hf1⟩ := bcell hb1; have hz1 : w.heap.size < w1.heap.size := Nat.lt_of_lt_of_le (by first | assumption | simp) hb1.size) | (go_at_call 70; refine (l4Group_any _ _ _ _ _).mono ?_; rintro e w1 ⟨rfl, hb1⟩; obtain ⟨hc1, hf1⟩ := bcell hb1; have hz1 : w.heap.size < w1.heap.size := Nat.lt_of_lt_of_le (by first | assumption | simp) hb1.size) | (go_at_call 79; refine (IsValidGroup_any _ _ _ _ _).mono ?_; rintro e w1 ⟨rfl, hb1⟩; obtain ⟨hc1, hf1⟩ := bcell hb1; have hz1 : w.heap.size < w1.heap.size := Nat.lt_of_lt_of_le (by first | assumption | simp) hb1.size) | fail)
      all_goals go_ret
      all_goals first | exact ⟨rfl, by (repeat (first | exact Below.refl _ _ | assumption | refine Below_al ?_ _ | refine Below.drew ?_ | refine Below_then ?_ (by assumption) | refine Below.setCell ?_ (by first | omega | (simp; done) | (simp; omega)) _))⟩ | (exfalso; omega) | (exfalso; simp_all; done)
    · by_cases h3 : a.o = 0
      · by_cases h4 : a.li = 0 ∧ a.t = 0 ∧ a.c1 = 0 ∧ a.k1 = 0 ∧ a.a1 = 0 ∧ a.t1 = 0
        · rw [armsOk_3 h1 h2 h3 h4]
          obtain ⟨e1, e2, e3, e4, e5, e6⟩ := h4
          go_enter Tryz.func39, Tryz.ntmps39
          go_wp2_with (first | (go_at_call 37; refine (inside_any _ _ _ _).mono ?_; rintro e w' ⟨rfl, rfl⟩) | (go_at_call 77; refine (isLine_any _ _).mono ?_; rintro e w' ⟨rfl, rfl⟩) | (go_at_call 78; refine (IsTincture_any _ _).mono ?_; rintro e w' ⟨rfl, rfl⟩) | (go_at_call 50; refine (l1In_any _ _ _ _).mono ?_; rintro e w' ⟨rfl, rfl⟩) | (go_at_call 71; refine (l3Line_any _ _).mono ?_; rintro e w' ⟨rfl, rfl⟩) | (go_at_call 72; refine (l2Good_any _ _).mono ?_; rintro e w' ⟨rfl, rfl⟩) | (go_at_call 58; refine (isOrdinary_any _ _ _ _).mono ?_; rintro e w' ⟨rfl, rfl⟩) | (go_at_call 56; refine (IsValidField_any _ _ _ _ _).mono ?_; rintro e w1 ⟨rfl, hb1⟩; obtain ⟨hc1, hf1⟩ := bcell hb1; have hz1 : w.heap.size < w1.heap.size := Nat.lt_of_lt_of_le (by first | assumption | simp) hb1.size) | (go_at_call 69; refine (l3Good_any _ _ _ _ _).mono ?_; rintro e w1 ⟨rfl, hb1⟩; obtain ⟨hc1, hf1⟩ := bcell hb1; have hz1 : w.heap.size < w1.heap.size := Nat.lt_of_lt_of_le (by first | assumption | simp) hb1.size) | (go_at_call 57; refine (isGroup_any _ _ _ _ _).mono ?_; rintro e w1 ⟨rfl, hb1⟩; obtain ⟨hc1, hf1⟩ := bcell hb1; have hz1 : w.heap.size < w1.heap.size := Nat.lt_of_lt_of_le (by first | assumption | simp) hb1.size) | (go_at_call 35; refine (l4None_any _ _ _ _ _).mono ?_; rintro e w1 ⟨rfl, hb1⟩; obtain ⟨hc1, hf1⟩ := bcell hb1; have hz1 : w.heap.size < w1.heap.size := Nat.lt_of_lt_of_le (by first | assumption | simp) hb1.size) | (go_at_call 70; refine (l4Group_any _ _ _ _ _).mono ?_; rintro e w1 ⟨rfl, hb1⟩; obtain ⟨hc1, hf1⟩ := bcell hb1; have hz1 : w.heap.size < w1.heap.size := Nat.lt_of_lt_of_le (by first | assumption | simp) hb1.size) | (go_at_call 79; refine (IsValidGroup_any _ _ _ _ _).mono ?_; rintro e w1 ⟨rfl, hb1⟩; obtain ⟨hc1, hf1⟩ := bcell hb1; have hz1 : w.heap.size < w1.heap.size := Nat.lt_of_lt_of_le (by first | assumption | simp) hb1.size) | fail)
          all_goals go_ret
          all_goals first | exact ⟨rfl, by (repeat (first | exact Below.refl _ _ | assumption | refine Below_al ?_ _ | refine Below.drew ?_ | refine Below_then ?_ (by assumption) | refine Below.setCell ?_ (by first | omega | (simp; done) | (simp; omega)) _))⟩ | (exfalso; omega) | (exfalso; simp_all; done)
        · rw [armsOk_4 h3 h4]
          go_enter Tryz.func39, Tryz.ntmps39
          go_wp2_with (first | (go_at_call 37; refine (inside_any _ _ _ _).mono ?_; rintro e w' ⟨rfl, rfl⟩) | (go_at_call 77; refine (isLine_any _ _).mono ?_; rintro e w' ⟨rfl, rfl⟩) | (go_at_call 78; refine (IsTincture_any _ _).mono ?_; rintro e w' ⟨rfl, rfl⟩) | (go_at_call 50; refine (l1In_any _ _ _ _).mono ?_; rintro e w' ⟨rfl, rfl⟩) | (go_at_call 71; refine (l3Line_any _ _).mono ?_; rintro e w' ⟨rfl, rfl⟩) | (go_at_call 72; refine (l2Good_any _ _).mono ?_; rintro e w' ⟨rfl, rfl⟩) | (go_at_call 58; refine (isOrdinary_any _ _ _ _).mono ?_; rintro e w' ⟨rfl, rfl⟩) | (go_at_call 56; refine (IsValidField_any _ _ _ _ _).mono ?_; rintro e w1 ⟨rfl, hb1⟩; obtain ⟨hc1, hf1⟩ := bcell hb1; have hz1 : w.heap.size < w1.heap.size := Nat.lt_of_lt_of_le (by first | assumption | simp) hb1.size) | (go_at_call 69; refine (l3Good_any _ _ _ _ _).mono ?_; rintro e w1 ⟨rfl, hb1⟩; obtain ⟨hc1, hf1⟩ := bcell hb1; have hz1 : w.heap.size < w1.heap.size := Nat.lt_of_lt_of_le (by first | assumption | simp) hb1.size) | (go_at_call 57; refine (isGroup_any _ _ _ _ _).mono ?_; rintro e w1 ⟨rfl, hb1⟩; obtain ⟨hc1, hf1⟩ := bcell hb1; have hz1 : w.heap.size < w1.heap.size := Nat.lt_of_lt_of_le (by first | assumption | simp) hb1.size) | (go_at_call 35; refine (l4None_any _ _ _ _ _).mono ?_; rintro e w1 ⟨rfl, hb1⟩; obtain ⟨hc1, hf1⟩ := bcell hb1; have hz1 : w.heap.size < w1.heap.size := Nat.lt_of_lt_of_le (by first | assumption | simp) hb1.size) | (go_at_call 70; refine (l4Group_any _ _ _ _ _).mono ?_; rintro e w1 ⟨rfl, hb1⟩; obtain ⟨hc1, hf1⟩ := bcell hb1; have hz1 : w.heap.size < w1.heap.size := Nat.lt_of_lt_of_le (by first | assumption | simp) hb1.size) | (go_at_call 79; refine (IsValidGroup_any _ _ _ _ _).mono ?_; rintro e w1 ⟨rfl, hb1⟩; obtain ⟨hc1, hf1⟩ := bcell hb1; have hz1 : w.heap.size < w1.heap.size := Nat.lt_of_lt_of_le (by first | assumption | simp) hb1.size) | fail)
          all_goals go_ret
          all_goals first | exact ⟨rfl, by (repeat (first | exact Below.refl _ _ | assumption | refine Below_al ?_ _ | refine Below.drew ?_ | refine Below_then ?_ (by assumption) | refine Below.setCell ?_ (by first | omega | (simp; done) | (simp; omega)) _))⟩ | (exfalso; omega) | (exfalso; simp_all; done)
      · have h3b : (a.o == 0) = false := by simpa using h3
        cases h5 : ordOk a.o a.li a.t
        · rw [armsOk_5 h3 h5]
          go_enter Tryz.func39, Tryz.ntmps39
          go_wp2_with (first | (go_at_call 37; refine (inside_any _ _ _ _).mono ?_; rintro e w' ⟨rfl, rfl⟩) | (go_at_call 77; refine (isLine_any _ _).mono ?_; rintro e w' ⟨rfl, rfl⟩) | (go_at_call 78; refine (IsTincture_any _ _).mono ?_; rintro e w' ⟨rfl, rfl⟩) | (go_at_call 50; refine (l1In_any _ _ _ _).mono ?_; rintro e w' ⟨rfl, rfl⟩) | (go_at_call 71; refine (l3Line_any _ _).mono ?_; rintro e w' ⟨rfl, rfl⟩) | (go_at_call 72; refine (l2Good_any _ _).mono ?_; rintro e w' ⟨rfl, rfl⟩) | (go_at_call 58; refine (isOrdinary_any _ _ _ _).mono ?_; rintro e w' ⟨rfl, rfl⟩) | (go_at_call 56; refine (IsValidField_any _ _ _ _ _).mono ?_; rintro e w1 ⟨rfl, hb1⟩; obtain ⟨hc1, hf1⟩ := bcell hb1; have hz1 : w.heap.size < w1.heap.size := Nat.lt_of_lt_of_le (by first | assumption | simp) hb1.size) | (go_at_call 69; refine (l3Good_any _ _ _ _ _).mono ?_; rintro e w1 ⟨rfl, hb1⟩; obtain ⟨hc1, hf1⟩ := bcell hb1; have hz1 : w.heap.size < w1.heap.size := Nat.lt_of_lt_of_le (by first | assumption | simp) hb1.size) | (go_at_call 57; refine (isGroup_any _ _ _ _ _).mono ?_; rintro e w1 ⟨rfl, hb1⟩; obtain ⟨hc1, hf1⟩ := bcell hb1; have hz1 : w.heap.size < w1.heap.size := Nat.lt_of_lt_of_le (by first | assumption | simp) hb1.size) | (go_at_call 35; refine (l4None_any _ _ _ _ _).mono ?_; rintro e w1 ⟨rfl, hb1⟩; obtain ⟨hc1, hf1⟩ := bcell hb1; have hz1 : w.heap.size < w1.heap.size := Nat.lt_of_lt_of_le (by first | assumption | simp) hb1.size) | (go_at_call 70; refine (l4Group_any _ _ _ _ _).mono ?_; rintro e w1 ⟨rfl, hb1⟩; obtain ⟨hc1, hf1⟩ := bcell hb1; have hz1 : w.heap.size < w1.heap.size := Nat.lt_of_lt_of_le (by first | assumption | simp) hb1.size) | (go_at_call 79; refine (IsValidGroup_any _ _ _ _ _).mono ?_; rintro e w1 ⟨rfl, hb1⟩; obtain ⟨hc1, hf1⟩ := bcell hb1; have hz1 : w.heap.size < w1.heap.size := Nat.lt_of_lt_of_le (by first | assumption | simp) hb1.size) | fail)
          all_goals go_ret
          all_goals first | exact ⟨rfl, by (repeat (first | exact Below.refl _ _ | assumption | refine Below_al ?_ _ | refine Below.drew ?_ | refine Below_then ?_ (by assumption) | refine Below.setCell ?_ (by first | omega | (simp; done) | (simp; omega)) _))⟩ | (exfalso; omega) | (exfalso; simp_all; done)
        · rw [armsOk_6 h1 h2 h3 h5]
          go_enter Tryz.func39, Tryz.ntmps39
          go_wp2_with (first | (go_at_call 37; refine (inside_any _ _ _ _).mono ?_; rintro e w' ⟨rfl, rfl⟩) | (go_at_call 77; refine (isLine_any _ _).mono ?_; rintro e w' ⟨rfl, rfl⟩) | (go_at_call 78; refine (IsTincture_any _ _).mono ?_; rintro e w' ⟨rfl, rfl⟩) | (go_at_call 50; refine (l1In_any _ _ _ _).mono ?_; rintro e w' ⟨rfl, rfl⟩) | (go_at_call 71; refine (l3Line_any _ _).mono ?_; rintro e w' ⟨rfl, rfl⟩) | (go_at_call 72; refine (l2Good_any _ _).mono ?_; rintro e w' ⟨rfl, rfl⟩) | (go_at_call 58; refine (isOrdinary_any _ _ _ _).mono ?_; rintro e w' ⟨rfl, rfl⟩) | (go_at_call 56; refine (IsValidField_any _ _ _ _ _).mono ?_; rintro e w1 ⟨rfl, hb1⟩; obtain ⟨hc1, hf1⟩ := bcell hb1; have hz1 : w.heap.size < w1.heap.size := Nat.lt_of_lt_of_le (by first | assumption | simp) hb1.size) | (go_at_call 69; refine (l3Good_any _ _ _ _ _).mono ?_; rintro e w1 ⟨rfl, hb1⟩; obtain ⟨hc1, hf1⟩ := bcell hb1; have hz1 : w.heap.size < w1.heap.size := Nat.lt_of_lt_of_le (by first | assumption | simp) hb1.size) | (go_at_call 57; refine (isGroup_any _ _ _ _ _).mono ?_; rintro e w1 ⟨rfl, hb1⟩; obtain ⟨hc1, hf1⟩ := bcell hb1; have hz1 : w.heap.size < w1.heap.size := Nat.lt_of_lt_of_le (by first | assumption | simp) hb1.size) | (go_at_call 35; refine (l4None_any _ _ _ _ _).mono ?_; rintro e w1 ⟨rfl, hb1⟩; obtain ⟨hc1, hf1⟩ := bcell hb1; have hz1 : w.heap.size < w1.heap.size := Nat.lt_of_lt_of_le (by first | assumption | simp) hb1.size) | (go_at_call 70; refine (l4Group_any _ _ _ _ _).mono ?_; rintro e w1 ⟨rfl, hb1⟩; obtain ⟨hc1, hf1⟩ := bcell hb1; have hz1 : w.heap.size < w1.heap.size := Nat.lt_of_lt_of_le (by first | assumption | simp) hb1.size) | (go_at_call 79; refine (IsValidGroup_any _ _ _ _ _).mono ?_; rintro e w1 ⟨rfl, hb1⟩; obtain ⟨hc1, hf1⟩ := bcell hb1; have hz1 : w.heap.size < w1.heap.size := Nat.lt_of_lt_of_le (by first | assumption | simp) hb1.size) | fail)
          all_goals go_ret
          all_goals first | exact ⟨rfl, by (repeat (first | exact Below.refl _ _ | assumption | refine Below_al ?_ _ | refine Below.drew ?_ | refine Below_then ?_ (by assumption) | refine Below.setCell ?_ (by first | omega | (simp; done) | (simp; omega)) _))⟩ | (exfalso; omega) | (exfalso; simp_all; done)
theorem any_none {c k a t : Int} (h : groupNone c k a t = true) : groupAny c k a t = true := by simp [groupAny, h]
theorem any_ok {c k a t : Int} (h : groupNone c k a t = false) : groupAny c k a t = groupOk c k a t := by simp [groupAny, h]
theorem none_zero {c k a t : Int} (h : c = 0 ∧ k = 0 ∧ a = 0 ∧ t = 0) : groupNone c k a t = true := by simp [groupNone, h]
theorem none_not {c k a t : Int} (h : ¬ (c = 0 ∧ k = 0 ∧ a = 0 ∧ t = 0)) : groupNone c k a t = false := by simp [groupNone]; omega
set_option maxHeartbeats 8000000 in
theorem l5_rest (a : ArmsD) (w : World) (h1 : fieldOk a.d a.l a.p a.q = true) (h2 : groupAny a.c2 a.k2 a.a2 a.t2 = true) (n2 : Bool) (hn2 : groupNone a.c2 a.k2 a.a2 a.t2 = n2) (hg2 : n2 = false → groupOk a.c2 a.k2 a.a2 a.t2 = true) :
    Calls Tryz.prog 52 #[.agg #[.int .i64 a.d, .int .i64 a.l, .int .i64 a.p, .int .i64 a.q, .int .i64 a.o, .int .i64 a.li, .int .i64 a.t, .int .i64 a.c1, .int .i64 a.k1, .int .i64 a.a1, .int .i64 a.t1, .int .i64 a.c2, .int .i64 a.k2, .int .i64 a.a2, .int .i64 a.t2]] w fun e w' => e = .returned (.bool (armsOk a)) ∧ Below w.heap.size w w' := by
  have hb : groupOk a.c2 a.k2 a.a2 a.t2 = true ∨ n2 = true := by cases n2 <;> simp_all
  clear hg2
  by_cases h3 : a.o = 0
  · by_cases h4 : a.li = 0 ∧ a.t = 0 ∧ a.c1 = 0 ∧ a.k1 = 0 ∧ a.a1 = 0 ∧ a.t1 = 0
    · rw [armsOk_3 h1 h2 h3 h4]
      obtain ⟨e1, e2, e3, e4, e5, e6⟩ := h4
      have hn1 : groupNone a.c1 a.k1 a.a1 a.t1 = true := none_zero ⟨e3, e4, e5, e6⟩
      clear h2
      cases n2
      all_goals
        simp only [Bool.false_eq_true, or_false, or_true] at hb
        go_enter Tryz.func52, Tryz.ntmps52
        go_wp2_with (first | (go_at_call 50; refine (l1In_any _ _ _ _).mono ?_; rintro e w' ⟨rfl, rfl⟩) | (go_at_call 71; refine (l3Line_any _ _).mono ?_; rintro e w' ⟨rfl, rfl⟩) | (go_at_call 72; refine (l2Good_any _ _).mono ?_; rintro e w' ⟨rfl, rfl⟩) | (go_at_call 69; refine (l3Good_any _ _ _ _ _).mono ?_; rintro e w1 ⟨rfl, hb1⟩; obtain ⟨hc1, hf1⟩ := bcell hb1; have hz1 : w.heap.size < w1.heap.size := Nat.lt_of_lt_of_le (by first | assumption | simp) hb1.size) | (go_at_call 35; refine (l4None_any _ _ _ _ _).mono ?_; rintro e w1 ⟨rfl, hb1⟩; obtain ⟨hc1, hf1⟩ := bcell hb1; have hz1 : w.heap.size < w1.heap.size := Nat.lt_of_lt_of_le (by first | assumption | simp) hb1.size) | (go_at_call 70; refine (l4Group_any _ _ _ _ _).mono ?_; rintro e w1 ⟨rfl, hb1⟩; obtain ⟨hc1, hf1⟩ := bcell hb1; have hz1 : w.heap.size < w1.heap.size := Nat.lt_of_lt_of_le (by first | assumption | simp) hb1.size) | fail)
        all_goals go_ret
        all_goals first | exact ⟨rfl, by (repeat (first | exact Below.refl _ _ | assumption | refine Below_al ?_ _ | refine Below.drew ?_ | refine Below_then ?_ (by assumption) | refine Below.setCell ?_ (by first | omega | (simp; done) | (simp; omega)) _))⟩ | (exfalso; omega) | (exfalso; simp_all; done)
    · rw [armsOk_4 h3 h4]
      clear h2
      by_cases h6 : a.li = 0 ∧ a.t = 0
      · have hn1 : groupNone a.c1 a.k1 a.a1 a.t1 = false := none_not (by omega)
        obtain ⟨e1, e2⟩ := h6
        clear h4
        cases n2
        all_goals
          simp only [Bool.false_eq_true, or_false, or_true] at hb
          go_enter Tryz.func52, Tryz.ntmps52
          go_wp2_with (first | (go_at_call 50; refine (l1In_any _ _ _ _).mono ?_; rintro e w' ⟨rfl, rfl⟩) | (go_at_call 71; refine (l3Line_any _ _).mono ?_; rintro e w' ⟨rfl, rfl⟩) | (go_at_call 72; refine (l2Good_any _ _).mono ?_; rintro e w' ⟨rfl, rfl⟩) | (go_at_call 69; refine (l3Good_any _ _ _ _ _).mono ?_; rintro e w1 ⟨rfl, hb1⟩; obtain ⟨hc1, hf1⟩ := bcell hb1; have hz1 : w.heap.size < w1.heap.size := Nat.lt_of_lt_of_le (by first | assumption | simp) hb1.size) | (go_at_call 35; refine (l4None_any _ _ _ _ _).mono ?_; rintro e w1 ⟨rfl, hb1⟩; obtain ⟨hc1, hf1⟩ := bcell hb1; have hz1 : w.heap.size < w1.heap.size := Nat.lt_of_lt_of_le (by first | assumption | simp) hb1.size) | (go_at_call 70; refine (l4Group_any _ _ _ _ _).mono ?_; rintro e w1 ⟨rfl, hb1⟩; obtain ⟨hc1, hf1⟩ := bcell hb1; have hz1 : w.heap.size < w1.heap.size := Nat.lt_of_lt_of_le (by first | assumption | simp) hb1.size) | fail)
          all_goals go_ret
          all_goals first | exact ⟨rfl, by (repeat (first | exact Below.refl _ _ | assumption | refine Below_al ?_ _ | refine Below.drew ?_ | refine Below_then ?_ (by assumption) | refine Below.setCell ?_ (by first | omega | (simp; done) | (simp; omega)) _))⟩ | (exfalso; omega) | (exfalso; simp_all; done)
      · clear h4
        cases n2
        all_goals
          simp only [Bool.false_eq_true, or_false, or_true] at hb
          go_enter Tryz.func52, Tryz.ntmps52
          go_wp2_with (first | (go_at_call 50; refine (l1In_any _ _ _ _).mono ?_; rintro e w' ⟨rfl, rfl⟩) | (go_at_call 71; refine (l3Line_any _ _).mono ?_; rintro e w' ⟨rfl, rfl⟩) | (go_at_call 72; refine (l2Good_any _ _).mono ?_; rintro e w' ⟨rfl, rfl⟩) | (go_at_call 69; refine (l3Good_any _ _ _ _ _).mono ?_; rintro e w1 ⟨rfl, hb1⟩; obtain ⟨hc1, hf1⟩ := bcell hb1; have hz1 : w.heap.size < w1.heap.size := Nat.lt_of_lt_of_le (by first | assumption | simp) hb1.size) | (go_at_call 35; refine (l4None_any _ _ _ _ _).mono ?_; rintro e w1 ⟨rfl, hb1⟩; obtain ⟨hc1, hf1⟩ := bcell hb1; have hz1 : w.heap.size < w1.heap.size := Nat.lt_of_lt_of_le (by first | assumption | simp) hb1.size) | (go_at_call 70; refine (l4Group_any _ _ _ _ _).mono ?_; rintro e w1 ⟨rfl, hb1⟩; obtain ⟨hc1, hf1⟩ := bcell hb1; have hz1 : w.heap.size < w1.heap.size := Nat.lt_of_lt_of_le (by first | assumption | simp) hb1.size) | fail)
          all_goals go_ret
          all_goals first | exact ⟨rfl, by (repeat (first | exact Below.refl _ _ | assumption | refine Below_al ?_ _ | refine Below.drew ?_ | refine Below_then ?_ (by assumption) | refine Below.setCell ?_ (by first | omega | (simp; done) | (simp; omega)) _))⟩ | (exfalso; omega) | (exfalso; simp_all; done)
  · have h3b : (a.o == 0) = false := by simpa using h3
    cases h5 : ordOk a.o a.li a.t
    · rw [armsOk_5 h3 h5]
      have h6 : ¬ ((1 ≤ a.o ∧ a.o ≤ 7) ∧ (0 ≤ a.li ∧ a.li ≤ 4) ∧ (1 ≤ a.t ∧ a.t ≤ 9)) := of_decide_eq_false h5
      clear h2 h5
      cases n2
      all_goals
        simp only [Bool.false_eq_true, or_false, or_true] at hb
        go_enter Tryz.func52, Tryz.ntmps52
        go_wp2_with (first | (go_at_call 50; refine (l1In_any _ _ _ _).mono ?_; rintro e w' ⟨rfl, rfl⟩) | (go_at_call 71; refine (l3Line_any _ _).mono ?_; rintro e w' ⟨rfl, rfl⟩) | (go_at_call 72; refine (l2Good_any _ _).mono ?_; rintro e w' ⟨rfl, rfl⟩) | (go_at_call 69; refine (l3Good_any _ _ _ _ _).mono ?_; rintro e w1 ⟨rfl, hb1⟩; obtain ⟨hc1, hf1⟩ := bcell hb1; have hz1 : w.heap.size < w1.heap.size := Nat.lt_of_lt_of_le (by first | assumption | simp) hb1.size) | (go_at_call 35; refine (l4None_any _ _ _ _ _).mono ?_; rintro e w1 ⟨rfl, hb1⟩; obtain ⟨hc1, hf1⟩ := bcell hb1; have hz1 : w.heap.size < w1.heap.size := Nat.lt_of_lt_of_le (by first | assumption | simp) hb1.size) | (go_at_call 70; refine (l4Group_any _ _ _ _ _).mono ?_; rintro e w1 ⟨rfl, hb1⟩; obtain ⟨hc1, hf1⟩ := bcell hb1; have hz1 : w.heap.size < w1.heap.size := Nat.lt_of_lt_of_le (by first | assumption | simp) hb1.size) | fail)
        all_goals go_ret
        all_goals first | exact ⟨rfl, by (repeat (first | exact Below.refl _ _ | assumption | refine Below_al ?_ _ | refine Below.drew ?_ | refine Below_then ?_ (by assumption) | refine Below.setCell ?_ (by first | omega | (simp; done) | (simp; omega)) _))⟩ | (exfalso; omega) | (exfalso; simp_all; done)
    · rw [armsOk_6 h1 h2 h3 h5]
      have h6 : (1 ≤ a.o ∧ a.o ≤ 7) ∧ (0 ≤ a.li ∧ a.li ≤ 4) ∧ (1 ≤ a.t ∧ a.t ≤ 9) := of_decide_eq_true h5
      obtain ⟨⟨g1, g2⟩, ⟨g3, g4⟩, g5, g6⟩ := h6
      clear h2 h5
      cases hn1 : groupNone a.c1 a.k1 a.a1 a.t1
      · rw [any_ok hn1]
        cases n2
        all_goals
          simp only [Bool.false_eq_true, or_false, or_true] at hb
          go_enter Tryz.func52, Tryz.ntmps52
          go_wp2_with (first | (go_at_call 50; refine (l1In_any _ _ _ _).mono ?_; rintro e w' ⟨rfl, rfl⟩) | (go_at_call 71; refine (l3Line_any _ _).mono ?_; rintro e w' ⟨rfl, rfl⟩) | (go_at_call 72; refine (l2Good_any _ _).mono ?_; rintro e w' ⟨rfl, rfl⟩) | (go_at_call 69; refine (l3Good_any _ _ _ _ _).mono ?_; rintro e w1 ⟨rfl, hb1⟩; obtain ⟨hc1, hf1⟩ := bcell hb1; have hz1 : w.heap.size < w1.heap.size := Nat.lt_of_lt_of_le (by first | assumption | simp) hb1.size) | (go_at_call 35; refine (l4None_any _ _ _ _ _).mono ?_; rintro e w1 ⟨rfl, hb1⟩; obtain ⟨hc1, hf1⟩ := bcell hb1; have hz1 : w.heap.size < w1.heap.size := Nat.lt_of_lt_of_le (by first | assumption | simp) hb1.size) | (go_at_call 70; refine (l4Group_any _ _ _ _ _).mono ?_; rintro e w1 ⟨rfl, hb1⟩; obtain ⟨hc1, hf1⟩ := bcell hb1; have hz1 : w.heap.size < w1.heap.size := Nat.lt_of_lt_of_le (by first | assumption | simp) hb1.size) | fail)
          all_goals go_ret
          all_goals first | exact ⟨rfl, by (repeat (first | exact Below.refl _ _ | assumption | refine Below_al ?_ _ | refine Below.drew ?_ | refine Below_then ?_ (by assumption) | refine Below.setCell ?_ (by first | omega | (simp; done) | (simp; omega)) _))⟩ | (exfalso; omega) | (exfalso; simp_all; done)
      · rw [any_none hn1]
        cases n2
        all_goals
          simp only [Bool.false_eq_true, or_false, or_true] at hb
          go_enter Tryz.func52, Tryz.ntmps52
          go_wp2_with (first | (go_at_call 50; refine (l1In_any _ _ _ _).mono ?_; rintro e w' ⟨rfl, rfl⟩) | (go_at_call 71; refine (l3Line_any _ _).mono ?_; rintro e w' ⟨rfl, rfl⟩) | (go_at_call 72; refine (l2Good_any _ _).mono ?_; rintro e w' ⟨rfl, rfl⟩) | (go_at_call 69; refine (l3Good_any _ _ _ _ _).mono ?_; rintro e w1 ⟨rfl, hb1⟩; obtain ⟨hc1, hf1⟩ := bcell hb1; have hz1 : w.heap.size < w1.heap.size := Nat.lt_of_lt_of_le (by first | assumption | simp) hb1.size) | (go_at_call 35; refine (l4None_any _ _ _ _ _).mono ?_; rintro e w1 ⟨rfl, hb1⟩; obtain ⟨hc1, hf1⟩ := bcell hb1; have hz1 : w.heap.size < w1.heap.size := Nat.lt_of_lt_of_le (by first | assumption | simp) hb1.size) | (go_at_call 70; refine (l4Group_any _ _ _ _ _).mono ?_; rintro e w1 ⟨rfl, hb1⟩; obtain ⟨hc1, hf1⟩ := bcell hb1; have hz1 : w.heap.size < w1.heap.size := Nat.lt_of_lt_of_le (by first | assumption | simp) hb1.size) | fail)
          all_goals go_ret
          all_goals first | exact ⟨rfl, by (repeat (first | exact Below.refl _ _ | assumption | refine Below_al ?_ _ | refine Below.drew ?_ | refine Below_then ?_ (by assumption) | refine Below.setCell ?_ (by first | omega | (simp; done) | (simp; omega)) _))⟩ | (exfalso; omega) | (exfalso; simp_all; done)
set_option maxHeartbeats 4000000 in
theorem l5Good_any (a : ArmsD) (w : World) :
    Calls Tryz.prog 52 #[.agg #[.int .i64 a.d, .int .i64 a.l, .int .i64 a.p, .int .i64 a.q, .int .i64 a.o, .int .i64 a.li, .int .i64 a.t, .int .i64 a.c1, .int .i64 a.k1, .int .i64 a.a1, .int .i64 a.t1, .int .i64 a.c2, .int .i64 a.k2, .int .i64 a.a2, .int .i64 a.t2]] w fun e w' => e = .returned (.bool (armsOk a)) ∧ Below w.heap.size w w' := by
  cases h1 : fieldOk a.d a.l a.p a.q
  · rw [armsOk_1 h1]
    go_enter Tryz.func52, Tryz.ntmps52
    go_wp2_with (first | (go_at_call 50; refine (l1In_any _ _ _ _).mono ?_; rintro e w' ⟨rfl, rfl⟩) | (go_at_call 71; refine (l3Line_any _ _).mono ?_; rintro e w' ⟨rfl, rfl⟩) | (go_at_call 72; refine (l2Good_any _ _).mono ?_; rintro e w' ⟨rfl, rfl⟩) | (go_at_call 69; refine (l3Good_any _ _ _ _ _).mono ?_; rintro e w1 ⟨rfl, hb1⟩; obtain ⟨hc1, hf1⟩ := bcell hb1; have hz1 : w.heap.size < w1.heap.size := Nat.lt_of_lt_of_le (by first | assumption | simp) hb1.size) | (go_at_call 35; refine (l4None_any _ _ _ _ _).mono ?_; rintro e w1 ⟨rfl, hb1⟩; obtain ⟨hc1, hf1⟩ := bcell hb1; have hz1 : w.heap.size < w1.heap.size := Nat.lt_of_lt_of_le (by first | assumption | simp) hb1.size) | (go_at_call 70; refine (l4Group_any _ _ _ _ _).mono ?_; rintro e w1 ⟨rfl, hb1⟩; obtain ⟨hc1, hf1⟩ := bcell hb1; have hz1 : w.heap.size < w1.heap.size := Nat.lt_of_lt_of_le (by first | assumption | simp) hb1.size) | fail)
    all_goals go_ret
    all_goals first | exact ⟨rfl, by (repeat (first | exact Below.refl _ _ | assumption | refine Below_al ?_ _ | refine Below.drew ?_ | refine Below_then ?_ (by assumption) | refine Below.setCell ?_ (by first | omega | (simp; done) | (simp; omega)) _))⟩ | (exfalso; omega) | (exfalso; simp_all; done)
  · cases hn2 : groupNone a.c2 a.k2 a.a2 a.t2
    · cases hg2 : groupOk a.c2 a.k2 a.a2 a.t2
      · by_cases h3 : 0 ≤ a.o ∧ a.o ≤ 7
        · rw [armsOk_2 (by rw [any_ok hn2, hg2])]
          go_enter Tryz.func52, Tryz.ntmps52
          go_wp2_with (first | (go_at_call 50; refine (l1In_any _ _ _ _).mono ?_; rintro e w' ⟨rfl, rfl⟩) | (go_at_call 71; refine (l3Line_any _ _).mono ?_; rintro e w' ⟨rfl, rfl⟩) | (go_at_call 72; refine (l2Good_any _ _).mono ?_; rintro e w' ⟨rfl, rfl⟩) | (go_at_call 69; refine (l3Good_any _ _ _ _ _).mono ?_; rintro e w1 ⟨rfl, hb1⟩; obtain ⟨hc1, hf1⟩ := bcell hb1; have hz1 : w.heap.size < w1.heap.size := Nat.lt_of_lt_of_le (by first | assumption | simp) hb1.size) | (go_at_call 35; refine (l4None_any _ _ _ _ _).mono ?_; rintro e w1 ⟨rfl, hb1⟩; obtain ⟨hc1, hf1⟩ := bcell hb1; have hz1 : w.heap.size < w1.heap.size := Nat.lt_of_lt_of_le (by first | assumption | simp) hb1.size) | (go_at_call 70; refine (l4Group_any _ _ _ _ _).mono ?_; rintro e w1 ⟨rfl, hb1⟩; obtain ⟨hc1, hf1⟩ := bcell hb1; have hz1 : w.heap.size < w1.heap.size := Nat.lt_of_lt_of_le (by first | assumption | simp) hb1.size) | fail)
          all_goals go_ret
          all_goals first | exact ⟨rfl, by (repeat (first | exact Below.refl _ _ | assumption | refine Below_al ?_ _ | refine Below.drew ?_ | refine Below_then ?_ (by assumption) | refine Below.setCell ?_ (by first | omega | (simp; done) | (simp; omega)) _))⟩ | (exfalso; omega) | (exfalso; simp_all; done)
        · rw [armsOk_2 (by rw [any_ok hn2, hg2])]
          go_enter Tryz.func52, Tryz.ntmps52
          go_wp2_with (first | (go_at_call 50; refine (l1In_any _ _ _ _).mono ?_; rintro e w' ⟨rfl, rfl⟩) | (go_at_call 71; refine (l3Line_any _ _).mono ?_; rintro e w' ⟨rfl, rfl⟩) | (go_at_call 72; refine (l2Good_any _ _).mono ?_; rintro e w' ⟨rfl, rfl⟩) | (go_at_call 69; refine (l3Good_any _ _ _ _ _).mono ?_; rintro e w1 ⟨rfl, hb1⟩; obtain ⟨hc1, hf1⟩ := bcell hb1; have hz1 : w.heap.size < w1.heap.size := Nat.lt_of_lt_of_le (by first | assumption | simp) hb1.size) | (go_at_call 35; refine (l4None_any _ _ _ _ _).mono ?_; rintro e w1 ⟨rfl, hb1⟩; obtain ⟨hc1, hf1⟩ := bcell hb1; have hz1 : w.heap.size < w1.heap.size := Nat.lt_of_lt_of_le (by first | assumption | simp) hb1.size) | (go_at_call 70; refine (l4Group_any _ _ _ _ _).mono ?_; rintro e w1 ⟨rfl, hb1⟩; obtain ⟨hc1, hf1⟩ := bcell hb1; have hz1 : w.heap.size < w1.heap.size := Nat.lt_of_lt_of_le (by first | assumption | simp) hb1.size) | fail)
          all_goals go_ret
          all_goals first | exact ⟨rfl, by (repeat (first | exact Below.refl _ _ | assumption | refine Below_al ?_ _ | refine Below.drew ?_ | refine Below_then ?_ (by assumption) | refine Below.setCell ?_ (by first | omega | (simp; done) | (simp; omega)) _))⟩ | (exfalso; omega) | (exfalso; simp_all; done)
      · exact l5_rest a w h1 (by rw [any_ok hn2, hg2]) false hn2 fun _ => hg2
    · exact l5_rest a w h1 (any_none hn2) true hn2 fun h => by cases h
end Go.Proofs.YtlonnkmfjijddaaGreatDoor
