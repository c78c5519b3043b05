/- Contracts: conflicts; ArmsDifferences, Conflict, both sides. -/
import Derived.Test.YtfpkdianampjkaaDiff2
namespace Go.Proofs.Ytfpkdianampjkaa
open Go.ChangeShapes Go.WideShapes Go.ChangeAt Go.RowKit
set_option linter.unusedVariables false
def confl (a b : ArmsD) : Bool := decide (df a b < 2)
theorem conflict_any (a b : ArmsD) (w : World) (ga : armsOk a = true) (gb : armsOk b = true) :
    Calls Try.prog 58 #[.agg #[.int .i64 a.d, .int .i64 a.l, .int .i64 a.p, .int .i64 a.q, .int .i64 a.o, .int .i64 a.li, .int .i64 a.t, .int .i64 a.c1, .int .i64 a.k1, .int .i64 a.a1, .int .i64 a.t1, .int .i64 a.c2, .int .i64 a.k2, .int .i64 a.a2, .int .i64 a.t2], .agg #[.int .i64 b.d, .int .i64 b.l, .int .i64 b.p, .int .i64 b.q, .int .i64 b.o, .int .i64 b.li, .int .i64 b.t, .int .i64 b.c1, .int .i64 b.k1, .int .i64 b.a1, .int .i64 b.t1, .int .i64 b.c2, .int .i64 b.k2, .int .i64 b.a2, .int .i64 b.t2]] w fun e w' => e = .returned (.bool (confl a b)) ∧ Below w.heap.size w w' := by
  have K := fun w => differences_any a b w ga gb
  have bd := df_bd a b
  unfold confl
  generalize df a b = x at *
  have K' := Lib.hid K
  clear K ga gb
  go_enter Try.func58, Try.ntmps58
  go_wp2_with (first | (go_at_call 56; refine (K'.out _).mono ?_; rintro e w1 ⟨rfl, hb1⟩) | fail)
  go_ret
  exact ⟨rfl, by (repeat (first | exact Below.refl _ _ | assumption | refine Below_al ?_ _ | refine Below.drew ?_ | refine Below_then ?_ (by assumption) | refine Below.setCell ?_ (by first | omega | (simp; done) | (simp; omega)) _))⟩
theorem l15Conflict_any (a b : ArmsD) (w : World) (ga : armsOk a = true) (gb : armsOk b = true) :
    Calls Try.prog 57 #[.agg #[.int .i64 a.d, .int .i64 a.l, .int .i64 a.p, .int .i64 a.q, .int .i64 a.o, .int .i64 a.li, .int .i64 a.t, .int .i64 a.c1, .int .i64 a.k1, .int .i64 a.a1, .int .i64 a.t1, .int .i64 a.c2, .int .i64 a.k2, .int .i64 a.a2, .int .i64 a.t2], .agg #[.int .i64 b.d, .int .i64 b.l, .int .i64 b.p, .int .i64 b.q, .int .i64 b.o, .int .i64 b.li, .int .i64 b.t, .int .i64 b.c1, .int .i64 b.k1, .int .i64 b.a1, .int .i64 b.t1, .int .i64 b.c2, .int .i64 b.k2, .int .i64 b.a2, .int .i64 b.t2]] w fun e w' => e = .returned (.bool (confl a b)) ∧ Below w.heap.size w w' := by
  have K := fun w => l15Count_any a b w ga gb
  have bd := df_bd a b
  unfold confl
  generalize df a b = x at *
  have K' := Lib.hid K
  clear K ga gb
  go_enter Try.func57, Try.ntmps57
  go_wp2_with (first | (go_at_call 52; refine (K'.out _).mono ?_; rintro e w1 ⟨rfl, hb1⟩) | fail)
  go_ret
  exact ⟨rfl, by (repeat (first | exact Below.refl _ _ | assumption | refine Below_al ?_ _ | refine Below.drew ?_ | refine Below_then ?_ (by assumption) | refine Below.setCell ?_ (by first | omega | (simp; done) | (simp; omega)) _))⟩
def adV (a b : ArmsD) : Int := bif armsOk a && armsOk b then df a b else 0
set_option maxHeartbeats 4000000 in
theorem specArmsDifferences_any (a b : ArmsD) (w : World) :
    Calls Try.prog 14 #[.agg #[.int .i64 a.d, .int .i64 a.l, .int .i64 a.p, .int .i64 a.q, .int .i64 a.o, .int .i64 a.li, .int .i64 a.t, .int .i64 a.c1, .int .i64 a.k1, .int .i64 a.a1, .int .i64 a.t1, .int .i64 a.c2, .int .i64 a.k2, .int .i64 a.a2, .int .i64 a.t2], .agg #[.int .i64 b.d, .int .i64 b.l, .int .i64 b.p, .int .i64 b.q, .int .i64 b.o, .int .i64 b.li, .int .i64 b.t, .int .i64 b.c1, .int .i64 b.k1, .int .i64 b.a1, .int .i64 b.t1, .int .i64 b.c2, .int .i64 b.k2, .int .i64 b.a2, .int .i64 b.t2]] w fun e w' => e = .returned (.tuple #[.int .i64 (adV a b), .bool (armsOk a && armsOk b)]) ∧ Below w.heap.size w w' := by
  have K1 := fun w => l5Good_any a w
  have K2 := fun w => l5Good_any b w
  cases ga : armsOk a
  · have hv : adV a b = 0 := by simp [adV, ga]
    rw [ga] at K1
    rw [hv, Bool.false_and]
    have K1' := Lib.hid K1
    clear K1 K2 ga hv
    go_enter Try.func14, Try.ntmps14
    go_wp2_with (first | (go_at_call 51; refine (K1'.out _).mono ?_; rintro e w1 ⟨rfl, hb1⟩) | fail)
    go_ret2
    exact ⟨rfl, by (repeat (first | exact Below.refl _ _ | assumption | refine Below_al ?_ _ | refine Below.drew ?_ | refine Below_then ?_ (by assumption) | refine Below.setCell ?_ (by first | omega | (simp; done) | (simp; omega)) _))⟩
  · cases gb : armsOk b
    · have hv : adV a b = 0 := by simp [adV, gb]
      rw [ga] at K1
      rw [gb] at K2
      rw [hv, Bool.and_false]
      have K1' := Lib.hid K1
      have K2' := Lib.hid K2
      clear K1 K2 ga gb hv
      go_enter Try.func14, Try.ntmps14
      go_wp2_with fail
      refine (K1'.out _).mono ?_
      rintro e w1 ⟨rfl, hb1⟩
      have hF1 : w1.heap[w.heap.size]? = some (.cells #[.int .i64 a.d, .int .i64 a.l, .int .i64 a.p, .int .i64 a.q, .int .i64 a.o, .int .i64 a.li, .int .i64 a.t, .int .i64 a.c1, .int .i64 a.k1, .int .i64 a.a1, .int .i64 a.t1, .int .i64 a.c2, .int .i64 a.k2, .int .i64 a.a2, .int .i64 a.t2] 33 (0, 0)) := heap_keepB (heap_keepA (heap_hit _ _ _ rfl) _) hb1
      have hF2 : w1.heap[w.heap.size + 1]? = some (.cells #[.int .i64 b.d, .int .i64 b.l, .int .i64 b.p, .int .i64 b.q, .int .i64 b.o, .int .i64 b.li, .int .i64 b.t, .int .i64 b.c1, .int .i64 b.k1, .int .i64 b.a1, .int .i64 b.t1, .int .i64 b.c2, .int .i64 b.k2, .int .i64 b.a2, .int .i64 b.t2] 33 (0, 0)) := heap_keepB (heap_hit _ _ _ (by simp)) hb1
      have HF1 := Lib.hid hF1
      have HF2 := Lib.hid hF2
      have e0 := cell_of hF2 0
      have e1 := cell_of hF2 1
      have e2 := cell_of hF2 2
      have e3 := cell_of hF2 3
      have e4 := cell_of hF2 4
      have e5 := cell_of hF2 5
      have e6 := cell_of hF2 6
      have e7 := cell_of hF2 7
      have e8 := cell_of hF2 8
      have e9 := cell_of hF2 9
      have e10 := cell_of hF2 10
      have e11 := cell_of hF2 11
      have e12 := cell_of hF2 12
      have e13 := cell_of hF2 13
      have e14 := cell_of hF2 14
      have hT := Below_then (show Below w.heap.size w _ by (repeat (first | exact Below.refl _ _ | assumption | refine Below_al ?_ _ | refine Below.drew ?_ | refine Below_then ?_ (by assumption) | refine Below.setCell ?_ (by first | omega | (simp; done) | (simp; omega)) _))) hb1
      clear hF1 hF2 hb1
      go_wp2_with fail
      refine (K2'.out _).mono ?_
      rintro e w2 ⟨rfl, hb2⟩
      clear e0 e1 e2 e3 e4 e5 e6 e7 e8 e9 e10 e11 e12 e13 e14
      have hF1 := heap_keepB HF1.out hb2
      have hF2 := heap_keepB HF2.out hb2
      have c0 := cell_of hF1 0
      have c1 := cell_of hF1 1
      have c2 := cell_of hF1 2
      have c3 := cell_of hF1 3
      have c4 := cell_of hF1 4
      have c5 := cell_of hF1 5
      have c6 := cell_of hF1 6
      have c7 := cell_of hF1 7
      have c8 := cell_of hF1 8
      have c9 := cell_of hF1 9
      have c10 := cell_of hF1 10
      have c11 := cell_of hF1 11
      have c12 := cell_of hF1 12
      have c13 := cell_of hF1 13
      have c14 := cell_of hF1 14
      have e0 := cell_of hF2 0
      have e1 := cell_of hF2 1
      have e2 := cell_of hF2 2
      have e3 := cell_of hF2 3
      have e4 := cell_of hF2 4
      have e5 := cell_of hF2 5
      have e6 := cell_of hF2 6
      have e7 := cell_of hF2 7
      have e8 := cell_of hF2 8
      have e9 := cell_of hF2 9
      have e10 := cell_of hF2 10
      have e11 := cell_of hF2 11
      have e12 := cell_of hF2 12
      have e13 := cell_of hF2 13
      have e14 := cell_of hF2 14
      have hT := Below_then hT hb2
      clear hF1 hF2 hb2
      go_wp2
      go_ret2
      exact ⟨rfl, hT⟩
    · have hv : adV a b = df a b := by simp [adV, ga, gb]
      have K3 := fun w => l15Count_any a b w ga gb
      rw [ga] at K1
      rw [gb] at K2
      rw [hv, Bool.and_true]
      generalize df a b = x at *
      have K1' := Lib.hid K1
      have K2' := Lib.hid K2
      have K3' := Lib.hid K3
      clear K1 K2 K3 ga gb hv
      go_enter Try.func14, Try.ntmps14
      go_wp2_with fail
      refine (K1'.out _).mono ?_
      rintro e w1 ⟨rfl, hb1⟩
      have hF1 : w1.heap[w.heap.size]? = some (.cells #[.int .i64 a.d, .int .i64 a.l, .int .i64 a.p, .int .i64 a.q, .int .i64 a.o, .int .i64 a.li, .int .i64 a.t, .int .i64 a.c1, .int .i64 a.k1, .int .i64 a.a1, .int .i64 a.t1, .int .i64 a.c2, .int .i64 a.k2, .int .i64 a.a2, .int .i64 a.t2] 33 (0, 0)) := heap_keepB (heap_keepA (heap_hit _ _ _ rfl) _) hb1
      have hF2 : w1.heap[w.heap.size + 1]? = some (.cells #[.int .i64 b.d, .int .i64 b.l, .int .i64 b.p, .int .i64 b.q, .int .i64 b.o, .int .i64 b.li, .int .i64 b.t, .int .i64 b.c1, .int .i64 b.k1, .int .i64 b.a1, .int .i64 b.t1, .int .i64 b.c2, .int .i64 b.k2, .int .i64 b.a2, .int .i64 b.t2] 33 (0, 0)) := heap_keepB (heap_hit _ _ _ (by simp)) hb1
      have HF1 := Lib.hid hF1
      have HF2 := Lib.hid hF2
      have e0 := cell_of hF2 0
      have e1 := cell_of hF2 1
      have e2 := cell_of hF2 2
      have e3 := cell_of hF2 3
      have e4 := cell_of hF2 4
      have e5 := cell_of hF2 5
      have e6 := cell_of hF2 6
      have e7 := cell_of hF2 7
      have e8 := cell_of hF2 8
      have e9 := cell_of hF2 9
      have e10 := cell_of hF2 10
      have e11 := cell_of hF2 11
      have e12 := cell_of hF2 12
      have e13 := cell_of hF2 13
      have e14 := cell_of hF2 14
      have hT := Below_then (show Below w.heap.size w _ by (repeat (first | exact Below.refl _ _ | assumption | refine Below_al ?_ _ | refine Below.drew ?_ | refine Below_then ?_ (by assumption) | refine Below.setCell ?_ (by first | omega | (simp; done) | (simp; omega)) _))) hb1
      clear hF1 hF2 hb1
      go_wp2_with fail
      refine (K2'.out _).mono ?_
      rintro e w2 ⟨rfl, hb2⟩
      clear e0 e1 e2 e3 e4 e5 e6 e7 e8 e9 e10 e11 e12 e13 e14
      have hF1 := heap_keepB HF1.out hb2
      have hF2 := heap_keepB HF2.out hb2
      have c0 := cell_of hF1 0
      have c1 := cell_of hF1 1
      have c2 := cell_of hF1 2
      have c3 := cell_of hF1 3
      have c4 := cell_of hF1 4
      have c5 := cell_of hF1 5
      have c6 := cell_of hF1 6
      have c7 := cell_of hF1 7
      have c8 := cell_of hF1 8
      have c9 := cell_of hF1 9
      have c10 := cell_of hF1 10
      have c11 := cell_of hF1 11
      have c12 := cell_of hF1 12
      have c13 := cell_of hF1 13
      have c14 := cell_of hF1 14
      have e0 := cell_of hF2 0
      have e1 := cell_of hF2 1
      have e2 := cell_of hF2 2
      have e3 := cell_of hF2 3
      have e4 := cell_of hF2 4
      have e5 := cell_of hF2 5
      have e6 := cell_of hF2 6
      have e7 := cell_of hF2 7
      have e8 := cell_of hF2 8
      have e9 := cell_of hF2 9
      have e10 := cell_of hF2 10
      have e11 := cell_of hF2 11
      have e12 := cell_of hF2 12
      have e13 := cell_of hF2 13
      have e14 := cell_of hF2 14
      have hT := Below_then hT hb2
      clear hF1 hF2 hb2
      go_wp2_with (first | (go_at_call 52; refine (K3'.out _).mono ?_; rintro e w1 ⟨rfl, hb1⟩) | fail)
      go_ret2
      exact ⟨rfl, by (repeat (first | exact Below.refl _ _ | assumption | refine Below_al ?_ _ | refine Below.drew ?_ | refine Below_then ?_ (by assumption) | refine Below.setCell ?_ (by first | omega | (simp; done) | (simp; omega)) _))⟩
set_option maxHeartbeats 4000000 in
theorem ArmsDifferences_any (a b : ArmsD) (w : World) :
    Calls Try.prog 16 #[.agg #[.int .i64 a.d, .int .i64 a.l, .int .i64 a.p, .int .i64 a.q, .int .i64 a.o, .int .i64 a.li, .int .i64 a.t, .int .i64 a.c1, .int .i64 a.k1, .int .i64 a.a1, .int .i64 a.t1, .int .i64 a.c2, .int .i64 a.k2, .int .i64 a.a2, .int .i64 a.t2], .agg #[.int .i64 b.d, .int .i64 b.l, .int .i64 b.p, .int .i64 b.q, .int .i64 b.o, .int .i64 b.li, .int .i64 b.t, .int .i64 b.c1, .int .i64 b.k1, .int .i64 b.a1, .int .i64 b.t1, .int .i64 b.c2, .int .i64 b.k2, .int .i64 b.a2, .int .i64 b.t2]] w fun e w' => e = .returned (.tuple #[.int .i64 (adV a b), .bool (armsOk a && armsOk b)]) ∧ Below w.heap.size w w' := by
  have K1 := fun w => IsValidArms_any a w
  have K2 := fun w => IsValidArms_any b w
  cases ga : armsOk a
  · have hv : adV a b = 0 := by simp [adV, ga]
    rw [ga] at K1
    rw [hv, Bool.false_and]
    have K1' := Lib.hid K1
    clear K1 K2 ga hv
    go_enter Try.func16, Try.ntmps16
    go_wp2_with (first | (go_at_call 55; refine (K1'.out _).mono ?_; rintro e w1 ⟨rfl, hb1⟩) | fail)
    go_ret2
    exact ⟨rfl, by (repeat (first | exact Below.refl _ _ | assumption | refine Below_al ?_ _ | refine Below.drew ?_ | refine Below_then ?_ (by assumption) | refine Below.setCell ?_ (by first | omega | (simp; done) | (simp; omega)) _))⟩
  · cases gb : armsOk b
    · have hv : adV a b = 0 := by simp [adV, gb]
      rw [ga] at K1
      rw [gb] at K2
      rw [hv, Bool.and_false]
      have K1' := Lib.hid K1
      have K2' := Lib.hid K2
      clear K1 K2 ga gb hv
      go_enter Try.func16, Try.ntmps16
      go_wp2_with fail
      refine (K1'.out _).mono ?_
      rintro e w1 ⟨rfl, hb1⟩
      have hF1 : w1.heap[w.heap.size]? = some (.cells #[.int .i64 a.d, .int .i64 a.l, .int .i64 a.p, .int .i64 a.q, .int .i64 a.o, .int .i64 a.li, .int .i64 a.t, .int .i64 a.c1, .int .i64 a.k1, .int .i64 a.a1, .int .i64 a.t1, .int .i64 a.c2, .int .i64 a.k2, .int .i64 a.a2, .int .i64 a.t2] 33 (0, 0)) := heap_keepB (heap_keepA (heap_hit _ _ _ rfl) _) hb1
      have hF2 : w1.heap[w.heap.size + 1]? = some (.cells #[.int .i64 b.d, .int .i64 b.l, .int .i64 b.p, .int .i64 b.q, .int .i64 b.o, .int .i64 b.li, .int .i64 b.t, .int .i64 b.c1, .int .i64 b.k1, .int .i64 b.a1, .int .i64 b.t1, .int .i64 b.c2, .int .i64 b.k2, .int .i64 b.a2, .int .i64 b.t2] 33 (0, 0)) := heap_keepB (heap_hit _ _ _ (by simp)) hb1
      have HF1 := Lib.hid hF1
      have HF2 := Lib.hid hF2
      have e0 := cell_of hF2 0
      have e1 := cell_of hF2 1
      have e2 := cell_of hF2 2
      have e3 := cell_of hF2 3
      have e4 := cell_of hF2 4
      have e5 := cell_of hF2 5
      have e6 := cell_of hF2 6
      have e7 := cell_of hF2 7
      have e8 := cell_of hF2 8
      have e9 := cell_of hF2 9
      have e10 := cell_of hF2 10
      have e11 := cell_of hF2 11
      have e12 := cell_of hF2 12
      have e13 := cell_of hF2 13
      have e14 := cell_of hF2 14
      have hT := Below_then (show Below w.heap.size w _ by (repeat (first | exact Below.refl _ _ | assumption | refine Below_al ?_ _ | refine Below.drew ?_ | refine Below_then ?_ (by assumption) | refine Below.setCell ?_ (by first | omega | (simp; done) | (simp; omega)) _))) hb1
      clear hF1 hF2 hb1
      go_wp2_with fail
      refine (K2'.out _).mono ?_
      rintro e w2 ⟨rfl, hb2⟩
      clear e0 e1 e2 e3 e4 e5 e6 e7 e8 e9 e10 e11 e12 e13 e14
      have hF1 := heap_keepB HF1.out hb2
      have hF2 := heap_keepB HF2.out hb2
      have c0 := cell_of hF1 0
      have c1 := cell_of hF1 1
      have c2 := cell_of hF1 2
      have c3 := cell_of hF1 3
      have c4 := cell_of hF1 4
      have c5 := cell_of hF1 5
      have c6 := cell_of hF1 6
      have c7 := cell_of hF1 7
      have c8 := cell_of hF1 8
      have c9 := cell_of hF1 9
      have c10 := cell_of hF1 10
      have c11 := cell_of hF1 11
      have c12 := cell_of hF1 12
      have c13 := cell_of hF1 13
      have c14 := cell_of hF1 14
      have e0 := cell_of hF2 0
      have e1 := cell_of hF2 1
      have e2 := cell_of hF2 2
      have e3 := cell_of hF2 3
      have e4 := cell_of hF2 4
      have e5 := cell_of hF2 5
      have e6 := cell_of hF2 6
      have e7 := cell_of hF2 7
      have e8 := cell_of hF2 8
      have e9 := cell_of hF2 9
      have e10 := cell_of hF2 10
      have e11 := cell_of hF2 11
      have e12 := cell_of hF2 12
      have e13 := cell_of hF2 13
      have e14 := cell_of hF2 14
      have hT := Below_then hT hb2
      clear hF1 hF2 hb2
      go_wp2
      go_ret2
      exact ⟨rfl, hT⟩
    · have hv : adV a b = df a b := by simp [adV, ga, gb]
      have K3 := fun w => differences_any a b w ga gb
      rw [ga] at K1
      rw [gb] at K2
      rw [hv, Bool.and_true]
      generalize df a b = x at *
      have K1' := Lib.hid K1
      have K2' := Lib.hid K2
      have K3' := Lib.hid K3
      clear K1 K2 K3 ga gb hv
      go_enter Try.func16, Try.ntmps16
      go_wp2_with fail
      refine (K1'.out _).mono ?_
      rintro e w1 ⟨rfl, hb1⟩
      have hF1 : w1.heap[w.heap.size]? = some (.cells #[.int .i64 a.d, .int .i64 a.l, .int .i64 a.p, .int .i64 a.q, .int .i64 a.o, .int .i64 a.li, .int .i64 a.t, .int .i64 a.c1, .int .i64 a.k1, .int .i64 a.a1, .int .i64 a.t1, .int .i64 a.c2, .int .i64 a.k2, .int .i64 a.a2, .int .i64 a.t2] 33 (0, 0)) := heap_keepB (heap_keepA (heap_hit _ _ _ rfl) _) hb1
      have hF2 : w1.heap[w.heap.size + 1]? = some (.cells #[.int .i64 b.d, .int .i64 b.l, .int .i64 b.p, .int .i64 b.q, .int .i64 b.o, .int .i64 b.li, .int .i64 b.t, .int .i64 b.c1, .int .i64 b.k1, .int .i64 b.a1, .int .i64 b.t1, .int .i64 b.c2, .int .i64 b.k2, .int .i64 b.a2, .int .i64 b.t2] 33 (0, 0)) := heap_keepB (heap_hit _ _ _ (by simp)) hb1
      have HF1 := Lib.hid hF1
      have HF2 := Lib.hid hF2
      have e0 := cell_of hF2 0
      have e1 := cell_of hF2 1
      have e2 := cell_of hF2 2
      have e3 := cell_of hF2 3
      have e4 := cell_of hF2 4
      have e5 := cell_of hF2 5
      have e6 := cell_of hF2 6
      have e7 := cell_of hF2 7
      have e8 := cell_of hF2 8
      have e9 := cell_of hF2 9
      have e10 := cell_of hF2 10
      have e11 := cell_of hF2 11
      have e12 := cell_of hF2 12
      have e13 := cell_of hF2 13
      have e14 := cell_of hF2 14
      have hT := Below_then (show Below w.heap.size w _ by (repeat (first | exact Below.refl _ _ | assumption | refine Below_al ?_ _ | refine Below.drew ?_ | refine Below_then ?_ (by assumption) | refine Below.setCell ?_ (by first | omega | (simp; done) | (simp; omega)) _))) hb1
      clear hF1 hF2 hb1
      go_wp2_with fail
      refine (K2'.out _).mono ?_
      rintro e w2 ⟨rfl, hb2⟩
      clear e0 e1 e2 e3 e4 e5 e6 e7 e8 e9 e10 e11 e12 e13 e14
      have hF1 := heap_keepB HF1.out hb2
      have hF2 := heap_keepB HF2.out hb2
      have c0 := cell_of hF1 0
      have c1 := cell_of hF1 1
      have c2 := cell_of hF1 2
      have c3 := cell_of hF1 3
      have c4 := cell_of hF1 4
      have c5 := cell_of hF1 5
      have c6 := cell_of hF1 6
      have c7 := cell_of hF1 7
      have c8 := cell_of hF1 8
      have c9 := cell_of hF1 9
      have c10 := cell_of hF1 10
      have c11 := cell_of hF1 11
      have c12 := cell_of hF1 12
      have c13 := cell_of hF1 13
      have c14 := cell_of hF1 14
      have e0 := cell_of hF2 0
      have e1 := cell_of hF2 1
      have e2 := cell_of hF2 2
      have e3 := cell_of hF2 3
      have e4 := cell_of hF2 4
      have e5 := cell_of hF2 5
      have e6 := cell_of hF2 6
      have e7 := cell_of hF2 7
      have e8 := cell_of hF2 8
      have e9 := cell_of hF2 9
      have e10 := cell_of hF2 10
      have e11 := cell_of hF2 11
      have e12 := cell_of hF2 12
      have e13 := cell_of hF2 13
      have e14 := cell_of hF2 14
      have hT := Below_then hT hb2
      clear hF1 hF2 hb2
      go_wp2_with (first | (go_at_call 56; refine (K3'.out _).mono ?_; rintro e w1 ⟨rfl, hb1⟩) | fail)
      go_ret2
      exact ⟨rfl, by (repeat (first | exact Below.refl _ _ | assumption | refine Below_al ?_ _ | refine Below.drew ?_ | refine Below_then ?_ (by assumption) | refine Below.setCell ?_ (by first | omega | (simp; done) | (simp; omega)) _))⟩
end Go.Proofs.Ytfpkdianampjkaa
