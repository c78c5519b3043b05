/- Contracts: the laws' own helpers on arms. -/
import Derived.Test.YtlonnkmfjijddaaGreatDoorArms
import Derived.Test.YtlonnkmfjijddaaGreatDoorInts
namespace Go.Proofs.YtlonnkmfjijddaaGreatDoor
open Go.ChangeShapes Go.WideShapes Go.ChangeAt Go.RowKit
set_option linter.unusedVariables false
theorem toFieldD_any (d l p q : Int) (w : World) :
    Calls Tryz.prog 75 #[.agg #[.int .i64 d, .int .i64 l, .int .i64 p, .int .i64 q]] w fun e w' => e = .returned (.agg #[.int .i64 d, .int .i64 l, .int .i64 p, .int .i64 q]) ∧ Below w.heap.size w w' := by
  go_enter Tryz.func75, Tryz.ntmps75
  go_wp2
  exact bodyPost_ret (v := .agg #[.int .i64 d, .int .i64 l, .int .i64 p, .int .i64 q]) (by simp [results, Tryz.results75, go_sem]) rfl ⟨rfl, by (repeat (first | exact Below.refl _ _ | assumption | refine Below_al ?_ _ | refine Below.drew ?_ | refine Below_then ?_ (by assumption) | refine Below.setCell ?_ (by first | omega | (simp; done) | (simp; omega)) _))⟩
theorem toGroup_any (d l p q : Int) (w : World) :
    Calls Tryz.prog 76 #[.agg #[.int .i64 d, .int .i64 l, .int .i64 p, .int .i64 q]] w fun e w' => e = .returned (.agg #[.int .i64 d, .int .i64 l, .int .i64 p, .int .i64 q]) ∧ Below w.heap.size w w' := by
  go_enter Tryz.func76, Tryz.ntmps76
  go_wp2
  exact bodyPost_ret (v := .agg #[.int .i64 d, .int .i64 l, .int .i64 p, .int .i64 q]) (by simp [results, Tryz.results76, go_sem]) rfl ⟨rfl, by (repeat (first | exact Below.refl _ _ | assumption | refine Below_al ?_ _ | refine Below.drew ?_ | refine Below_then ?_ (by assumption) | refine Below.setCell ?_ (by first | omega | (simp; done) | (simp; omega)) _))⟩
set_option maxHeartbeats 4000000 in
theorem toArms_any (a : ArmsD) (w : World) :
    Calls Tryz.prog 55 #[.agg #[.int .i64 a.d, .int .i64 a.l, .int .i64 a.p, .int .i64 a.q, .int .i64 a.o, .int .i64 a.li, .int .i64 a.t, .int .i64 a.c1, .int .i64 a.k1, .int .i64 a.a1, .int .i64 a.t1, .int .i64 a.c2, .int .i64 a.k2, .int .i64 a.a2, .int .i64 a.t2]] w fun e w' => e = .returned (.agg #[.int .i64 a.d, .int .i64 a.l, .int .i64 a.p, .int .i64 a.q, .int .i64 a.o, .int .i64 a.li, .int .i64 a.t, .int .i64 a.c1, .int .i64 a.k1, .int .i64 a.a1, .int .i64 a.t1, .int .i64 a.c2, .int .i64 a.k2, .int .i64 a.a2, .int .i64 a.t2]) ∧ Below w.heap.size w w' := by
  have hne1 : w.heap.size ≠ w.heap.size + 1 + 1 := by omega
  have hne2 : w.heap.size + 1 ≠ w.heap.size + 1 + 1 := by omega
  go_enter Tryz.func55, Tryz.ntmps55
  go_wp2_with fail
  refine (toFieldD_any _ _ _ _ _).mono ?_
  rintro e w1 ⟨rfl, hb1⟩
  have hF1 : w1.heap[w.heap.size]? = some (.cells #[.int .i64 a.d, .int .i64 a.l, .int .i64 a.p, .int .i64 a.q, .int .i64 a.o, .int .i64 a.li, .int .i64 a.t, .int .i64 a.c1, .int .i64 a.k1, .int .i64 a.a1, .int .i64 a.t1, .int .i64 a.c2, .int .i64 a.k2, .int .i64 a.a2, .int .i64 a.t2] 69 (0, 0)) := heap_keepB (heap_keepA (heap_keepA (heap_hit _ _ _ rfl) _) _) hb1
  have hF2 : w1.heap[w.heap.size + 1]? = some (.cells #[.int .i64 0, .int .i64 0, .int .i64 0, .int .i64 0, .int .i64 0, .int .i64 0, .int .i64 0, .int .i64 0, .int .i64 0, .int .i64 0, .int .i64 0, .int .i64 0, .int .i64 0, .int .i64 0, .int .i64 0] 47 (0, 0)) := heap_keepB (heap_keepA (heap_hit _ _ _ (by simp)) _) hb1
  have hF3 : w1.heap[w.heap.size + 1 + 1]? = some (.cells #[.int .i64 0, .int .i64 0, .int .i64 0, .int .i64 0, .int .i64 0, .int .i64 0, .int .i64 0, .int .i64 0, .int .i64 0, .int .i64 0, .int .i64 0, .int .i64 0, .int .i64 0, .int .i64 0, .int .i64 0] 47 (0, 0)) := heap_keepB (heap_hit _ _ _ (by simp)) hb1
  have hT := Below_then (show Below w.heap.size w _ by (repeat (first | exact Below.refl _ _ | assumption | refine Below_al ?_ _ | refine Below.drew ?_ | refine Below_then ?_ (by assumption) | refine Below.setCell ?_ (by first | omega | (simp; done) | (simp; omega)) _))) hb1
  have c4 := cell_of hF1 4
  have c5 := cell_of hF1 5
  have c6 := cell_of hF1 6
  have c7 := cell_of hF1 7
  have c8 := cell_of hF1 8
  have c9 := cell_of hF1 9
  have c10 := cell_of hF1 10
  have e0 := cell_of hF3 0
  have e1 := cell_of hF3 1
  have e2 := cell_of hF3 2
  have e3 := cell_of hF3 3
  have e4 := cell_of hF3 4
  have e5 := cell_of hF3 5
  have e6 := cell_of hF3 6
  have g0 := frozen_of hF3 0
  have g1 := frozen_of hF3 1
  have g2 := frozen_of hF3 2
  have g3 := frozen_of hF3 3
  have g4 := frozen_of hF3 4
  have g5 := frozen_of hF3 5
  have g6 := frozen_of hF3 6
  have HF1 := Lib.hid hF1
  have HF2 := Lib.hid hF2
  have HF3 := Lib.hid hF3
  clear hF1 hF2 hF3 hb1
  go_wp2_with fail
  refine (toGroup_any _ _ _ _ _).mono ?_
  rintro e w2 ⟨rfl, hb2⟩
  have hF1 : w2.heap[w.heap.size]? = some (.cells #[.int .i64 a.d, .int .i64 a.l, .int .i64 a.p, .int .i64 a.q, .int .i64 a.o, .int .i64 a.li, .int .i64 a.t, .int .i64 a.c1, .int .i64 a.k1, .int .i64 a.a1, .int .i64 a.t1, .int .i64 a.c2, .int .i64 a.k2, .int .i64 a.a2, .int .i64 a.t2] 69 (0, 0)) := heap_keepB ((heap_far _ _ _ _ hne1).trans ((heap_far _ _ _ _ hne1).trans ((heap_far _ _ _ _ hne1).trans ((heap_far _ _ _ _ hne1).trans ((heap_far _ _ _ _ hne1).trans ((heap_far _ _ _ _ hne1).trans ((heap_far _ _ _ _ hne1).trans HF1.out))))))) hb2
  have hF2 : w2.heap[w.heap.size + 1]? = some (.cells #[.int .i64 0, .int .i64 0, .int .i64 0, .int .i64 0, .int .i64 0, .int .i64 0, .int .i64 0, .int .i64 0, .int .i64 0, .int .i64 0, .int .i64 0, .int .i64 0, .int .i64 0, .int .i64 0, .int .i64 0] 47 (0, 0)) := heap_keepB ((heap_far _ _ _ _ hne2).trans ((heap_far _ _ _ _ hne2).trans ((heap_far _ _ _ _ hne2).trans ((heap_far _ _ _ _ hne2).trans ((heap_far _ _ _ _ hne2).trans ((heap_far _ _ _ _ hne2).trans ((heap_far _ _ _ _ hne2).trans HF2.out))))))) hb2
  have hF3 : w2.heap[w.heap.size + 1 + 1]? = some (.cells #[.int .i64 a.d, .int .i64 a.l, .int .i64 a.p, .int .i64 a.q, .int .i64 a.o, .int .i64 a.li, .int .i64 a.t, .int .i64 0, .int .i64 0, .int .i64 0, .int .i64 0, .int .i64 0, .int .i64 0, .int .i64 0, .int .i64 0] 47 (0, 0)) := heap_keepB (heap_set _ _ 6 _ _ _ (heap_set _ _ 5 _ _ _ (heap_set _ _ 4 _ _ _ (heap_set _ _ 3 _ _ _ (heap_set _ _ 2 _ _ _ (heap_set _ _ 1 _ _ _ (heap_set _ _ 0 _ _ _ HF3.out))))))) hb2
  have hle : w.heap.size ≤ w.heap.size + 1 + 1 := Nat.le_trans (Nat.le_succ _) (Nat.le_succ _)
  have hT := Below_then ((((((((hT).setCell hle _).setCell hle _).setCell hle _).setCell hle _).setCell hle _).setCell hle _).setCell hle _) hb2
  clear hle c4 c5 c6 c7 c8 c9 c10 e0 e1 e2 e3 e4 e5 e6 g0 g1 g2 g3 g4 g5 g6 HF1 HF2 HF3
  have c11 := cell_of hF1 11
  have c12 := cell_of hF1 12
  have c13 := cell_of hF1 13
  have c14 := cell_of hF1 14
  have e7 := cell_of hF3 7
  have e8 := cell_of hF3 8
  have e9 := cell_of hF3 9
  have e10 := cell_of hF3 10
  have g7 := frozen_of hF3 7
  have g8 := frozen_of hF3 8
  have g9 := frozen_of hF3 9
  have g10 := frozen_of hF3 10
  have HF1 := Lib.hid hF1
  have HF2 := Lib.hid hF2
  have HF3 := Lib.hid hF3
  clear hF1 hF2 hF3 hb2
  go_wp2_with fail
  refine (toGroup_any _ _ _ _ _).mono ?_
  rintro e w3 ⟨rfl, hb3⟩
  have hF2 : w3.heap[w.heap.size + 1]? = some (.cells #[.int .i64 0, .int .i64 0, .int .i64 0, .int .i64 0, .int .i64 0, .int .i64 0, .int .i64 0, .int .i64 0, .int .i64 0, .int .i64 0, .int .i64 0, .int .i64 0, .int .i64 0, .int .i64 0, .int .i64 0] 47 (0, 0)) := heap_keepB ((heap_far _ _ _ _ hne2).trans ((heap_far _ _ _ _ hne2).trans ((heap_far _ _ _ _ hne2).trans ((heap_far _ _ _ _ hne2).trans HF2.out)))) hb3
  have hF3 : w3.heap[w.heap.size + 1 + 1]? = some (.cells #[.int .i64 a.d, .int .i64 a.l, .int .i64 a.p, .int .i64 a.q, .int .i64 a.o, .int .i64 a.li, .int .i64 a.t, .int .i64 a.c1, .int .i64 a.k1, .int .i64 a.a1, .int .i64 a.t1, .int .i64 0, .int .i64 0, .int .i64 0, .int .i64 0] 47 (0, 0)) := heap_keepB (heap_set _ _ 10 _ _ _ (heap_set _ _ 9 _ _ _ (heap_set _ _ 8 _ _ _ (heap_set _ _ 7 _ _ _ HF3.out)))) hb3
  have hle : w.heap.size ≤ w.heap.size + 1 + 1 := Nat.le_trans (Nat.le_succ _) (Nat.le_succ _)
  have hT := Below_then (((((hT).setCell hle _).setCell hle _).setCell hle _).setCell hle _) hb3
  clear hle
  clear c11 c12 c13 c14 e7 e8 e9 e10 g7 g8 g9 g10 HF1 HF2 HF3
  have c0 := cell_of hF2 0
  have c1 := cell_of hF2 1
  have c2 := cell_of hF2 2
  have c3 := cell_of hF2 3
  have c4 := cell_of hF2 4
  have c5 := cell_of hF2 5
  have c6 := cell_of hF2 6
  have c7 := cell_of hF2 7
  have c8 := cell_of hF2 8
  have c9 := cell_of hF2 9
  have c10 := cell_of hF2 10
  have c11 := cell_of hF2 11
  have c12 := cell_of hF2 12
  have c13 := cell_of hF2 13
  have c14 := cell_of hF2 14
  have e0 := cell_of hF3 0
  have e1 := cell_of hF3 1
  have e2 := cell_of hF3 2
  have e3 := cell_of hF3 3
  have e4 := cell_of hF3 4
  have e5 := cell_of hF3 5
  have e6 := cell_of hF3 6
  have e7 := cell_of hF3 7
  have e8 := cell_of hF3 8
  have e9 := cell_of hF3 9
  have e10 := cell_of hF3 10
  have e11 := cell_of hF3 11
  have e12 := cell_of hF3 12
  have e13 := cell_of hF3 13
  have e14 := cell_of hF3 14
  have g11 := frozen_of hF3 11
  have g12 := frozen_of hF3 12
  have g13 := frozen_of hF3 13
  have g14 := frozen_of hF3 14
  have k0 := frozen_of hF2 0
  have k1 := frozen_of hF2 1
  have k2 := frozen_of hF2 2
  have k3 := frozen_of hF2 3
  have k4 := frozen_of hF2 4
  have k5 := frozen_of hF2 5
  have k6 := frozen_of hF2 6
  have k7 := frozen_of hF2 7
  have k8 := frozen_of hF2 8
  have k9 := frozen_of hF2 9
  have k10 := frozen_of hF2 10
  have k11 := frozen_of hF2 11
  have k12 := frozen_of hF2 12
  have k13 := frozen_of hF2 13
  have k14 := frozen_of hF2 14
  have HF2 := Lib.hid hF2
  have HF3 := Lib.hid hF3
  clear hF2 hF3 hb3
  go_wp2
  have hle : w.heap.size ≤ w.heap.size + 1 + 1 := Nat.le_trans (Nat.le_succ _) (Nat.le_succ _)
  have hle1 : w.heap.size ≤ w.heap.size + 1 := Nat.le_succ _
  exact bodyPost_ret (v := .agg #[.int .i64 a.d, .int .i64 a.l, .int .i64 a.p, .int .i64 a.q, .int .i64 a.o, .int .i64 a.li, .int .i64 a.t, .int .i64 a.c1, .int .i64 a.k1, .int .i64 a.a1, .int .i64 a.t1, .int .i64 a.c2, .int .i64 a.k2, .int .i64 a.a2, .int .i64 a.t2]) (by simp [results, Tryz.results55, go_sem, c0, c1, c2, c3, c4, c5, c6, c7, c8, c9, c10, c11, c12, c13, c14]) rfl ⟨rfl, (((((((((((((((((((hT).setCell hle _).setCell hle _).setCell hle _).setCell hle _).setCell hle1 _).setCell hle1 _).setCell hle1 _).setCell hle1 _).setCell hle1 _).setCell hle1 _).setCell hle1 _).setCell hle1 _).setCell hle1 _).setCell hle1 _).setCell hle1 _).setCell hle1 _).setCell hle1 _).setCell hle1 _).setCell hle1 _⟩
end Go.Proofs.YtlonnkmfjijddaaGreatDoor
