/- Contracts: ArmsOrdinary, GroundOf: both sides. -/
import Derived.Test.YtfpkdianampjkaaArmReg
namespace Go.Proofs.Ytfpkdianampjkaa
open Go.ChangeShapes Go.WideShapes Go.ChangeAt Go.RowKit
set_option linter.unusedVariables false
set_option maxHeartbeats 4000000 in
theorem ArmsOrdinary_yes (a : ArmsD) (w : World) (ga : armsOk a = true) : Calls Try.prog 28 #[.agg #[.int .i64 a.d, .int .i64 a.l, .int .i64 a.p, .int .i64 a.q, .int .i64 a.o, .int .i64 a.li, .int .i64 a.t, .int .i64 a.c1, .int .i64 a.k1, .int .i64 a.a1, .int .i64 a.t1, .int .i64 a.c2, .int .i64 a.k2, .int .i64 a.a2, .int .i64 a.t2]] w (RegOk w (regRows (ordG a false)) true) := by
  have K1 := fun w => IsValidArms_any a w
  rw [ga] at K1
  have K2 := fun w => band_any a w ga
  have K1' := Lib.hid K1
  have K2' := Lib.hid K2
  clear K1 K2 ga
  go_enter Try.func28, Try.ntmps28
  go_wp2_with fail
  refine (K1'.out _).mono ?_
  rintro e w1 ⟨rfl, hb1⟩
  have hF : w1.heap[w.heap.size]? = some (.cells #[.int .i64 a.d, .int .i64 a.l, .int .i64 a.p, .int .i64 a.q, .int .i64 a.o, .int .i64 a.li, .int .i64 a.t, .int .i64 a.c1, .int .i64 a.k1, .int .i64 a.a1, .int .i64 a.t1, .int .i64 a.c2, .int .i64 a.k2, .int .i64 a.a2, .int .i64 a.t2] 33 (0, 0)) := heap_keepB (heap_keepA (heap_hit _ _ _ rfl) _) hb1
  have hS : w1.heap[w.heap.size + 1]? = some (.cells #[.slice none 0 0] 48 (0, 0)) := heap_keepB (heap_hit _ _ _ (by simp)) hb1
  have c0 := cell_of hF 0
  have c1 := cell_of hF 1
  have c2 := cell_of hF 2
  have c3 := cell_of hF 3
  have c4 := cell_of hF 4
  have c5 := cell_of hF 5
  have c6 := cell_of hF 6
  have c7 := cell_of hF 7
  have c8 := cell_of hF 8
  have c9 := cell_of hF 9
  have c10 := cell_of hF 10
  have c11 := cell_of hF 11
  have c12 := cell_of hF 12
  have c13 := cell_of hF 13
  have c14 := cell_of hF 14
  have hT := Below_then (show Below w.heap.size w _ by (repeat (first | exact Below.refl _ _ | assumption | refine Below_al ?_ _ | refine Below.drew ?_ | refine Below_then ?_ (by assumption) | refine Below.setCell ?_ (by first | omega | (simp; done) | (simp; omega)) _))) hb1
  clear hF hb1
  go_wp2_with fail
  refine (K2'.out _).mono ?_
  rintro e w2 ⟨v, rfl, ho, hb2⟩
  obtain ⟨A, c, rfl, -⟩ := ho.form
  have hlt := heap_lt hS
  have hS2 := heap_keepB hS hb2
  have s1 : w2.cell? ⟨w.heap.size + 1, 0, none⟩ = some (.slice none 0 0) := cell_of hS2 0
  have s2 := frozen_of hS2 0
  have hT := Below_then hT hb2
  have hle : w.heap.size ≤ w1.heap.size := by omega
  clear hS hS2 hb2 c0 c1 c2 c3 c4 c5 c6 c7 c8 c9 c10 c11 c12 c13 c14
  go_wp2
  exact bodyPost_ret (v := .tuple #[.agg #[.slice A (regRows (ordG a false)).length c], .bool true]) (by simp [results, Try.results28, go_sem, s1]) rfl ⟨_, rfl, OwnI.base (ownsRow_setCell_below ho hlt _) hle, hT.setCell (Nat.le_succ _) _⟩
theorem ArmsOrdinary_no (a : ArmsD) (w : World) (ga : armsOk a = false) : Calls Try.prog 28 #[.agg #[.int .i64 a.d, .int .i64 a.l, .int .i64 a.p, .int .i64 a.q, .int .i64 a.o, .int .i64 a.li, .int .i64 a.t, .int .i64 a.c1, .int .i64 a.k1, .int .i64 a.a1, .int .i64 a.t1, .int .i64 a.c2, .int .i64 a.k2, .int .i64 a.a2, .int .i64 a.t2]] w (RegOk w [] false) := by
  have K1 := fun w => IsValidArms_any a w
  rw [ga] at K1
  have K1' := Lib.hid K1
  clear K1 ga
  go_enter Try.func28, Try.ntmps28
  go_wp2_with fail
  refine (K1'.out _).mono ?_
  rintro e w1 ⟨rfl, hb1⟩
  have hS : w1.heap[w.heap.size + 1]? = some (.cells #[.slice none 0 0] 48 (0, 0)) := heap_keepB (heap_hit _ _ _ (by simp)) hb1
  have s1 : w1.cell? ⟨w.heap.size + 1, 0, none⟩ = some (.slice none 0 0) := cell_of hS 0
  have s2 := frozen_of hS 0
  have hT := Below_then (show Below w.heap.size w _ by (repeat (first | exact Below.refl _ _ | assumption | refine Below_al ?_ _ | refine Below.drew ?_ | refine Below_then ?_ (by assumption) | refine Below.setCell ?_ (by first | omega | (simp; done) | (simp; omega)) _))) hb1
  clear hS hb1
  go_wp2
  exact bodyPost_ret (v := .tuple #[.agg #[.slice none 0 0], .bool false]) (by simp [results, Try.results28, go_sem, s1]) rfl ⟨_, rfl, OwnI.nil _ _ _, hT.setCell (Nat.le_succ _) _⟩
set_option maxHeartbeats 4000000 in
theorem specArmsOrdinary_yes (a : ArmsD) (w : World) (ga : armsOk a = true) : Calls Try.prog 27 #[.agg #[.int .i64 a.d, .int .i64 a.l, .int .i64 a.p, .int .i64 a.q, .int .i64 a.o, .int .i64 a.li, .int .i64 a.t, .int .i64 a.c1, .int .i64 a.k1, .int .i64 a.a1, .int .i64 a.t1, .int .i64 a.c2, .int .i64 a.k2, .int .i64 a.a2, .int .i64 a.t2]] w (RegOk w (regRows (ordG a false)) true) := by
  have K1 := fun w => l5Good_any a w
  rw [ga] at K1
  have K2 := fun w => l11Region_any a false w ga
  have K1' := Lib.hid K1
  have K2' := Lib.hid K2
  clear K1 K2 ga
  go_enter Try.func27, Try.ntmps27
  go_wp2_with fail
  refine (K1'.out _).mono ?_
  rintro e w1 ⟨rfl, hb1⟩
  have hF : w1.heap[w.heap.size]? = some (.cells #[.int .i64 a.d, .int .i64 a.l, .int .i64 a.p, .int .i64 a.q, .int .i64 a.o, .int .i64 a.li, .int .i64 a.t, .int .i64 a.c1, .int .i64 a.k1, .int .i64 a.a1, .int .i64 a.t1, .int .i64 a.c2, .int .i64 a.k2, .int .i64 a.a2, .int .i64 a.t2] 33 (0, 0)) := heap_keepB (heap_keepA (heap_hit _ _ _ rfl) _) hb1
  have hS : w1.heap[w.heap.size + 1]? = some (.cells #[.slice none 0 0] 48 (0, 0)) := heap_keepB (heap_hit _ _ _ (by simp)) hb1
  have c0 := cell_of hF 0
  have c1 := cell_of hF 1
  have c2 := cell_of hF 2
  have c3 := cell_of hF 3
  have c4 := cell_of hF 4
  have c5 := cell_of hF 5
  have c6 := cell_of hF 6
  have c7 := cell_of hF 7
  have c8 := cell_of hF 8
  have c9 := cell_of hF 9
  have c10 := cell_of hF 10
  have c11 := cell_of hF 11
  have c12 := cell_of hF 12
  have c13 := cell_of hF 13
  have c14 := cell_of hF 14
  have hT := Below_then (show Below w.heap.size w _ by (repeat (first | exact Below.refl _ _ | assumption | refine Below_al ?_ _ | refine Below.drew ?_ | refine Below_then ?_ (by assumption) | refine Below.setCell ?_ (by first | omega | (simp; done) | (simp; omega)) _))) hb1
  clear hF hb1
  go_wp2_with fail
  refine (K2'.out _).mono ?_
  rintro e w2 ⟨v, rfl, ho, hb2⟩
  obtain ⟨A, c, rfl, -⟩ := ho.form
  have hlt := heap_lt hS
  have hS2 := heap_keepB hS hb2
  have s1 : w2.cell? ⟨w.heap.size + 1, 0, none⟩ = some (.slice none 0 0) := cell_of hS2 0
  have s2 := frozen_of hS2 0
  have hT := Below_then hT hb2
  have hle : w.heap.size ≤ w1.heap.size := by omega
  clear hS hS2 hb2 c0 c1 c2 c3 c4 c5 c6 c7 c8 c9 c10 c11 c12 c13 c14
  go_wp2
  exact bodyPost_ret (v := .tuple #[.agg #[.slice A (regRows (ordG a false)).length c], .bool true]) (by simp [results, Try.results27, go_sem, s1]) rfl ⟨_, rfl, OwnI.base (ownsRow_setCell_below ho hlt _) hle, hT.setCell (Nat.le_succ _) _⟩
theorem specArmsOrdinary_no (a : ArmsD) (w : World) (ga : armsOk a = false) : Calls Try.prog 27 #[.agg #[.int .i64 a.d, .int .i64 a.l, .int .i64 a.p, .int .i64 a.q, .int .i64 a.o, .int .i64 a.li, .int .i64 a.t, .int .i64 a.c1, .int .i64 a.k1, .int .i64 a.a1, .int .i64 a.t1, .int .i64 a.c2, .int .i64 a.k2, .int .i64 a.a2, .int .i64 a.t2]] w (RegOk w [] false) := by
  have K1 := fun w => l5Good_any a w
  rw [ga] at K1
  have K1' := Lib.hid K1
  clear K1 ga
  go_enter Try.func27, Try.ntmps27
  go_wp2_with fail
  refine (K1'.out _).mono ?_
  rintro e w1 ⟨rfl, hb1⟩
  have hS : w1.heap[w.heap.size + 1]? = some (.cells #[.slice none 0 0] 48 (0, 0)) := heap_keepB (heap_hit _ _ _ (by simp)) hb1
  have s1 : w1.cell? ⟨w.heap.size + 1, 0, none⟩ = some (.slice none 0 0) := cell_of hS 0
  have s2 := frozen_of hS 0
  have hT := Below_then (show Below w.heap.size w _ by (repeat (first | exact Below.refl _ _ | assumption | refine Below_al ?_ _ | refine Below.drew ?_ | refine Below_then ?_ (by assumption) | refine Below.setCell ?_ (by first | omega | (simp; done) | (simp; omega)) _))) hb1
  clear hS hb1
  go_wp2
  exact bodyPost_ret (v := .tuple #[.agg #[.slice none 0 0], .bool false]) (by simp [results, Try.results27, go_sem, s1]) rfl ⟨_, rfl, OwnI.nil _ _ _, hT.setCell (Nat.le_succ _) _⟩
set_option maxHeartbeats 4000000 in
theorem GroundOf_yes (a : ArmsD) (w : World) (ga : armsOk a = true) : Calls Try.prog 33 #[.agg #[.int .i64 a.d, .int .i64 a.l, .int .i64 a.p, .int .i64 a.q, .int .i64 a.o, .int .i64 a.li, .int .i64 a.t, .int .i64 a.c1, .int .i64 a.k1, .int .i64 a.a1, .int .i64 a.t1, .int .i64 a.c2, .int .i64 a.k2, .int .i64 a.a2, .int .i64 a.t2]] w (RegOk w (regRows (ordG a true)) true) := by
  have K1 := fun w => IsValidArms_any a w
  rw [ga] at K1
  have K2 := fun w => ground_any a w ga
  have K1' := Lib.hid K1
  have K2' := Lib.hid K2
  clear K1 K2 ga
  go_enter Try.func33, Try.ntmps33
  go_wp2_with fail
  refine (K1'.out _).mono ?_
  rintro e w1 ⟨rfl, hb1⟩
  have hF : w1.heap[w.heap.size]? = some (.cells #[.int .i64 a.d, .int .i64 a.l, .int .i64 a.p, .int .i64 a.q, .int .i64 a.o, .int .i64 a.li, .int .i64 a.t, .int .i64 a.c1, .int .i64 a.k1, .int .i64 a.a1, .int .i64 a.t1, .int .i64 a.c2, .int .i64 a.k2, .int .i64 a.a2, .int .i64 a.t2] 33 (0, 0)) := heap_keepB (heap_keepA (heap_hit _ _ _ rfl) _) hb1
  have hS : w1.heap[w.heap.size + 1]? = some (.cells #[.slice none 0 0] 48 (0, 0)) := heap_keepB (heap_hit _ _ _ (by simp)) hb1
  have c0 := cell_of hF 0
  have c1 := cell_of hF 1
  have c2 := cell_of hF 2
  have c3 := cell_of hF 3
  have c4 := cell_of hF 4
  have c5 := cell_of hF 5
  have c6 := cell_of hF 6
  have c7 := cell_of hF 7
  have c8 := cell_of hF 8
  have c9 := cell_of hF 9
  have c10 := cell_of hF 10
  have c11 := cell_of hF 11
  have c12 := cell_of hF 12
  have c13 := cell_of hF 13
  have c14 := cell_of hF 14
  have hT := Below_then (show Below w.heap.size w _ by (repeat (first | exact Below.refl _ _ | assumption | refine Below_al ?_ _ | refine Below.drew ?_ | refine Below_then ?_ (by assumption) | refine Below.setCell ?_ (by first | omega | (simp; done) | (simp; omega)) _))) hb1
  clear hF hb1
  go_wp2_with fail
  refine (K2'.out _).mono ?_
  rintro e w2 ⟨v, rfl, ho, hb2⟩
  obtain ⟨A, c, rfl, -⟩ := ho.form
  have hlt := heap_lt hS
  have hS2 := heap_keepB hS hb2
  have s1 : w2.cell? ⟨w.heap.size + 1, 0, none⟩ = some (.slice none 0 0) := cell_of hS2 0
  have s2 := frozen_of hS2 0
  have hT := Below_then hT hb2
  have hle : w.heap.size ≤ w1.heap.size := by omega
  clear hS hS2 hb2 c0 c1 c2 c3 c4 c5 c6 c7 c8 c9 c10 c11 c12 c13 c14
  go_wp2
  exact bodyPost_ret (v := .tuple #[.agg #[.slice A (regRows (ordG a true)).length c], .bool true]) (by simp [results, Try.results33, go_sem, s1]) rfl ⟨_, rfl, OwnI.base (ownsRow_setCell_below ho hlt _) hle, hT.setCell (Nat.le_succ _) _⟩
theorem GroundOf_no (a : ArmsD) (w : World) (ga : armsOk a = false) : Calls Try.prog 33 #[.agg #[.int .i64 a.d, .int .i64 a.l, .int .i64 a.p, .int .i64 a.q, .int .i64 a.o, .int .i64 a.li, .int .i64 a.t, .int .i64 a.c1, .int .i64 a.k1, .int .i64 a.a1, .int .i64 a.t1, .int .i64 a.c2, .int .i64 a.k2, .int .i64 a.a2, .int .i64 a.t2]] w (RegOk w [] false) := by
  have K1 := fun w => IsValidArms_any a w
  rw [ga] at K1
  have K1' := Lib.hid K1
  clear K1 ga
  go_enter Try.func33, Try.ntmps33
  go_wp2_with fail
  refine (K1'.out _).mono ?_
  rintro e w1 ⟨rfl, hb1⟩
  have hS : w1.heap[w.heap.size + 1]? = some (.cells #[.slice none 0 0] 48 (0, 0)) := heap_keepB (heap_hit _ _ _ (by simp)) hb1
  have s1 : w1.cell? ⟨w.heap.size + 1, 0, none⟩ = some (.slice none 0 0) := cell_of hS 0
  have s2 := frozen_of hS 0
  have hT := Below_then (show Below w.heap.size w _ by (repeat (first | exact Below.refl _ _ | assumption | refine Below_al ?_ _ | refine Below.drew ?_ | refine Below_then ?_ (by assumption) | refine Below.setCell ?_ (by first | omega | (simp; done) | (simp; omega)) _))) hb1
  clear hS hb1
  go_wp2
  exact bodyPost_ret (v := .tuple #[.agg #[.slice none 0 0], .bool false]) (by simp [results, Try.results33, go_sem, s1]) rfl ⟨_, rfl, OwnI.nil _ _ _, hT.setCell (Nat.le_succ _) _⟩
set_option maxHeartbeats 4000000 in
theorem specGroundOf_yes (a : ArmsD) (w : World) (ga : armsOk a = true) : Calls Try.prog 32 #[.agg #[.int .i64 a.d, .int .i64 a.l, .int .i64 a.p, .int .i64 a.q, .int .i64 a.o, .int .i64 a.li, .int .i64 a.t, .int .i64 a.c1, .int .i64 a.k1, .int .i64 a.a1, .int .i64 a.t1, .int .i64 a.c2, .int .i64 a.k2, .int .i64 a.a2, .int .i64 a.t2]] w (RegOk w (regRows (ordG a true)) true) := by
  have K1 := fun w => l5Good_any a w
  rw [ga] at K1
  have K2 := fun w => l11Region_any a true w ga
  have K1' := Lib.hid K1
  have K2' := Lib.hid K2
  clear K1 K2 ga
  go_enter Try.func32, Try.ntmps32
  go_wp2_with fail
  refine (K1'.out _).mono ?_
  rintro e w1 ⟨rfl, hb1⟩
  have hF : w1.heap[w.heap.size]? = some (.cells #[.int .i64 a.d, .int .i64 a.l, .int .i64 a.p, .int .i64 a.q, .int .i64 a.o, .int .i64 a.li, .int .i64 a.t, .int .i64 a.c1, .int .i64 a.k1, .int .i64 a.a1, .int .i64 a.t1, .int .i64 a.c2, .int .i64 a.k2, .int .i64 a.a2, .int .i64 a.t2] 33 (0, 0)) := heap_keepB (heap_keepA (heap_hit _ _ _ rfl) _) hb1
  have hS : w1.heap[w.heap.size + 1]? = some (.cells #[.slice none 0 0] 48 (0, 0)) := heap_keepB (heap_hit _ _ _ (by simp)) hb1
  have c0 := cell_of hF 0
  have c1 := cell_of hF 1
  have c2 := cell_of hF 2
  have c3 := cell_of hF 3
  have c4 := cell_of hF 4
  have c5 := cell_of hF 5
  have c6 := cell_of hF 6
  have c7 := cell_of hF 7
  have c8 := cell_of hF 8
  have c9 := cell_of hF 9
  have c10 := cell_of hF 10
  have c11 := cell_of hF 11
  have c12 := cell_of hF 12
  have c13 := cell_of hF 13
  have c14 := cell_of hF 14
  have hT := Below_then (show Below w.heap.size w _ by (repeat (first | exact Below.refl _ _ | assumption | refine Below_al ?_ _ | refine Below.drew ?_ | refine Below_then ?_ (by assumption) | refine Below.setCell ?_ (by first | omega | (simp; done) | (simp; omega)) _))) hb1
  clear hF hb1
  go_wp2_with fail
  refine (K2'.out _).mono ?_
  rintro e w2 ⟨v, rfl, ho, hb2⟩
  obtain ⟨A, c, rfl, -⟩ := ho.form
  have hlt := heap_lt hS
  have hS2 := heap_keepB hS hb2
  have s1 : w2.cell? ⟨w.heap.size + 1, 0, none⟩ = some (.slice none 0 0) := cell_of hS2 0
  have s2 := frozen_of hS2 0
  have hT := Below_then hT hb2
  have hle : w.heap.size ≤ w1.heap.size := by omega
  clear hS hS2 hb2 c0 c1 c2 c3 c4 c5 c6 c7 c8 c9 c10 c11 c12 c13 c14
  go_wp2
  exact bodyPost_ret (v := .tuple #[.agg #[.slice A (regRows (ordG a true)).length c], .bool true]) (by simp [results, Try.results32, go_sem, s1]) rfl ⟨_, rfl, OwnI.base (ownsRow_setCell_below ho hlt _) hle, hT.setCell (Nat.le_succ _) _⟩
theorem specGroundOf_no (a : ArmsD) (w : World) (ga : armsOk a = false) : Calls Try.prog 32 #[.agg #[.int .i64 a.d, .int .i64 a.l, .int .i64 a.p, .int .i64 a.q, .int .i64 a.o, .int .i64 a.li, .int .i64 a.t, .int .i64 a.c1, .int .i64 a.k1, .int .i64 a.a1, .int .i64 a.t1, .int .i64 a.c2, .int .i64 a.k2, .int .i64 a.a2, .int .i64 a.t2]] w (RegOk w [] false) := by
  have K1 := fun w => l5Good_any a w
  rw [ga] at K1
  have K1' := Lib.hid K1
  clear K1 ga
  go_enter Try.func32, Try.ntmps32
  go_wp2_with fail
  refine (K1'.out _).mono ?_
  rintro e w1 ⟨rfl, hb1⟩
  have hS : w1.heap[w.heap.size + 1]? = some (.cells #[.slice none 0 0] 48 (0, 0)) := heap_keepB (heap_hit _ _ _ (by simp)) hb1
  have s1 : w1.cell? ⟨w.heap.size + 1, 0, none⟩ = some (.slice none 0 0) := cell_of hS 0
  have s2 := frozen_of hS 0
  have hT := Below_then (show Below w.heap.size w _ by (repeat (first | exact Below.refl _ _ | assumption | refine Below_al ?_ _ | refine Below.drew ?_ | refine Below_then ?_ (by assumption) | refine Below.setCell ?_ (by first | omega | (simp; done) | (simp; omega)) _))) hb1
  clear hS hb1
  go_wp2
  exact bodyPost_ret (v := .tuple #[.agg #[.slice none 0 0], .bool false]) (by simp [results, Try.results32, go_sem, s1]) rfl ⟨_, rfl, OwnI.nil _ _ _, hT.setCell (Nat.le_succ _) _⟩
end Go.Proofs.Ytfpkdianampjkaa
