/- FnExactArmsDifferences: for all arguments ArmsDifferences of the program returns what ArmsDifferences of the reference returns. No condition. -/
import Derived.Test.YtfpkdianampjkaaRows
import Derived.Test.YtfpkdianampjkaaDiff3
import Derived.Test.YtfpkdianampjkaaToArms
import Derived.Test.YtfpkdianampjkaaAOpen
namespace Go.Proofs.Ytfpkdianampjkaa.fnExactArmsDifferences
open Go.ChangeShapes Go.WideShapes Go.ChangeAt Go.RowKit
set_option linter.unusedVariables false

set_option maxHeartbeats 8000000 in
theorem walk (a : ArmsD) (wa : ∀ z ∈ [a.d, a.l, a.p, a.q, a.o, a.li, a.t, a.c1, a.k1, a.a1, a.t1, a.c2, a.k2, a.a2, a.t2], (Lit.int .i64 z).wf = true) (b : ArmsD) (wb : ∀ z ∈ [b.d, b.l, b.p, b.q, b.o, b.li, b.t, b.c1, b.k1, b.a1, b.t1, b.c2, b.k2, b.a2, b.t2], (Lit.int .i64 z).wf = true) (w : World) :
    Calls Try.prog 3 #[.agg #[.int .i64 a.d, .int .i64 a.l, .int .i64 a.p, .int .i64 a.q, .int .i64 a.o, .int .i64 a.li, .int .i64 a.t, .int .i64 a.c1, .int .i64 a.k1, .int .i64 a.a1, .int .i64 a.t1, .int .i64 a.c2, .int .i64 a.k2, .int .i64 a.a2, .int .i64 a.t2], .agg #[.int .i64 b.d, .int .i64 b.l, .int .i64 b.p, .int .i64 b.q, .int .i64 b.o, .int .i64 b.li, .int .i64 b.t, .int .i64 b.c1, .int .i64 b.k1, .int .i64 b.a1, .int .i64 b.t1, .int .i64 b.c2, .int .i64 b.k2, .int .i64 b.a2, .int .i64 b.t2]] w fun e w' => e = .returned (.bool true) ∧ Below w.heap.size w w' := by
  clear wa wb
  obtain ⟨n, x, KS, KI⟩ : ∃ (n : Int) (x : Bool), (∀ w, Calls Try.prog 14 #[.agg #[.int .i64 a.d, .int .i64 a.l, .int .i64 a.p, .int .i64 a.q, .int .i64 a.o, .int .i64 a.li, .int .i64 a.t, .int .i64 a.c1, .int .i64 a.k1, .int .i64 a.a1, .int .i64 a.t1, .int .i64 a.c2, .int .i64 a.k2, .int .i64 a.a2, .int .i64 a.t2], .agg #[.int .i64 b.d, .int .i64 b.l, .int .i64 b.p, .int .i64 b.q, .int .i64 b.o, .int .i64 b.li, .int .i64 b.t, .int .i64 b.c1, .int .i64 b.k1, .int .i64 b.a1, .int .i64 b.t1, .int .i64 b.c2, .int .i64 b.k2, .int .i64 b.a2, .int .i64 b.t2]] w fun e w' => e = .returned (.tuple #[.int .i64 n, .bool x]) ∧ Below w.heap.size w w') ∧ (∀ w, Calls Try.prog 16 #[.agg #[.int .i64 a.d, .int .i64 a.l, .int .i64 a.p, .int .i64 a.q, .int .i64 a.o, .int .i64 a.li, .int .i64 a.t, .int .i64 a.c1, .int .i64 a.k1, .int .i64 a.a1, .int .i64 a.t1, .int .i64 a.c2, .int .i64 a.k2, .int .i64 a.a2, .int .i64 a.t2], .agg #[.int .i64 b.d, .int .i64 b.l, .int .i64 b.p, .int .i64 b.q, .int .i64 b.o, .int .i64 b.li, .int .i64 b.t, .int .i64 b.c1, .int .i64 b.k1, .int .i64 b.a1, .int .i64 b.t1, .int .i64 b.c2, .int .i64 b.k2, .int .i64 b.a2, .int .i64 b.t2]] w fun e w' => e = .returned (.tuple #[.int .i64 n, .bool x]) ∧ Below w.heap.size w w') := ⟨_, _, fun w => specArmsDifferences_any a b w, fun w => ArmsDifferences_any a b w⟩
  have KS' := Lib.hid KS
  have KI' := Lib.hid KI
  have KA' := Lib.hid (fun w => toArms_any a w)
  have KB' := Lib.hid (fun w => toArms_any b w)
  clear KS KI
  go_enter Try.func3, Try.ntmps3
  go_wp2_with fail
  obtain ⟨y0, hy0⟩ : ∃ x, x = (w.alloc (.cells #[.int .i64 a.d, .int .i64 a.l, .int .i64 a.p, .int .i64 a.q, .int .i64 a.o, .int .i64 a.li, .int .i64 a.t, .int .i64 a.c1, .int .i64 a.k1, .int .i64 a.a1, .int .i64 a.t1, .int .i64 a.c2, .int .i64 a.k2, .int .i64 a.a2, .int .i64 a.t2] 27)).alloc (.cells #[.int .i64 b.d, .int .i64 b.l, .int .i64 b.p, .int .i64 b.q, .int .i64 b.o, .int .i64 b.li, .int .i64 b.t, .int .i64 b.c1, .int .i64 b.k1, .int .i64 b.a1, .int .i64 b.t1, .int .i64 b.c2, .int .i64 b.k2, .int .i64 b.a2, .int .i64 b.t2] 27) := ⟨_, rfl⟩
  rw [← hy0]
  have hF1 : y0.heap[w.heap.size]? = some (.cells #[.int .i64 a.d, .int .i64 a.l, .int .i64 a.p, .int .i64 a.q, .int .i64 a.o, .int .i64 a.li, .int .i64 a.t, .int .i64 a.c1, .int .i64 a.k1, .int .i64 a.a1, .int .i64 a.t1, .int .i64 a.c2, .int .i64 a.k2, .int .i64 a.a2, .int .i64 a.t2] 27 (0, 0)) := by rw [hy0]; exact heap_keepA (heap_hit _ _ _ rfl) _
  have hF2 : y0.heap[w.heap.size + 1]? = some (.cells #[.int .i64 b.d, .int .i64 b.l, .int .i64 b.p, .int .i64 b.q, .int .i64 b.o, .int .i64 b.li, .int .i64 b.t, .int .i64 b.c1, .int .i64 b.k1, .int .i64 b.a1, .int .i64 b.t1, .int .i64 b.c2, .int .i64 b.k2, .int .i64 b.a2, .int .i64 b.t2] 27 (0, 0)) := by rw [hy0]; exact heap_hit _ _ _ (by simp)
  have c0 := cell_of hF1 0
  have c1 := cell_of hF1 1
  have c2 := cell_of hF1 2
  have c3 := cell_of hF1 3
  have c4 := cell_of hF1 4
  have c5 := cell_of hF1 5
  have c6 := cell_of hF1 6
  have c7 := cell_of hF1 7
  have c8 := cell_of hF1 8
  have c9 := cell_of hF1 9
  have c10 := cell_of hF1 10
  have c11 := cell_of hF1 11
  have c12 := cell_of hF1 12
  have c13 := cell_of hF1 13
  have c14 := cell_of hF1 14
  have e0 := cell_of hF2 0
  have e1 := cell_of hF2 1
  have e2 := cell_of hF2 2
  have e3 := cell_of hF2 3
  have e4 := cell_of hF2 4
  have e5 := cell_of hF2 5
  have e6 := cell_of hF2 6
  have e7 := cell_of hF2 7
  have e8 := cell_of hF2 8
  have e9 := cell_of hF2 9
  have e10 := cell_of hF2 10
  have e11 := cell_of hF2 11
  have e12 := cell_of hF2 12
  have e13 := cell_of hF2 13
  have e14 := cell_of hF2 14
  have hT : Below w.heap.size w y0 := by rw [hy0]; (repeat (first | exact Below.refl _ _ | assumption | refine Below_al ?_ _ | refine Below.drew ?_ | refine Below_then ?_ (by assumption) | refine Below.setCell ?_ (by first | omega | (simp; done) | (simp; omega)) _))
  clear hF1 hF2 hy0
  go_region_held3 (fun w' => w'.cell? ⟨w.heap.size, 0, none⟩ = some (.int .i64 a.d) ∧ w'.cell? ⟨w.heap.size, 1, none⟩ = some (.int .i64 a.l) ∧ w'.cell? ⟨w.heap.size, 2, none⟩ = some (.int .i64 a.p) ∧ w'.cell? ⟨w.heap.size, 3, none⟩ = some (.int .i64 a.q) ∧ w'.cell? ⟨w.heap.size, 4, none⟩ = some (.int .i64 a.o) ∧ w'.cell? ⟨w.heap.size, 5, none⟩ = some (.int .i64 a.li) ∧ w'.cell? ⟨w.heap.size, 6, none⟩ = some (.int .i64 a.t) ∧ w'.cell? ⟨w.heap.size, 7, none⟩ = some (.int .i64 a.c1) ∧ w'.cell? ⟨w.heap.size, 8, none⟩ = some (.int .i64 a.k1) ∧ w'.cell? ⟨w.heap.size, 9, none⟩ = some (.int .i64 a.a1) ∧ w'.cell? ⟨w.heap.size, 10, none⟩ = some (.int .i64 a.t1) ∧ w'.cell? ⟨w.heap.size, 11, none⟩ = some (.int .i64 a.c2) ∧ w'.cell? ⟨w.heap.size, 12, none⟩ = some (.int .i64 a.k2) ∧ w'.cell? ⟨w.heap.size, 13, none⟩ = some (.int .i64 a.a2) ∧ w'.cell? ⟨w.heap.size, 14, none⟩ = some (.int .i64 a.t2) ∧ w'.cell? ⟨w.heap.size + 1, 0, none⟩ = some (.int .i64 b.d) ∧ w'.cell? ⟨w.heap.size + 1, 1, none⟩ = some (.int .i64 b.l) ∧ w'.cell? ⟨w.heap.size + 1, 2, none⟩ = some (.int .i64 b.p) ∧ w'.cell? ⟨w.heap.size + 1, 3, none⟩ = some (.int .i64 b.q) ∧ w'.cell? ⟨w.heap.size + 1, 4, none⟩ = some (.int .i64 b.o) ∧ w'.cell? ⟨w.heap.size + 1, 5, none⟩ = some (.int .i64 b.li) ∧ w'.cell? ⟨w.heap.size + 1, 6, none⟩ = some (.int .i64 b.t) ∧ w'.cell? ⟨w.heap.size + 1, 7, none⟩ = some (.int .i64 b.c1) ∧ w'.cell? ⟨w.heap.size + 1, 8, none⟩ = some (.int .i64 b.k1) ∧ w'.cell? ⟨w.heap.size + 1, 9, none⟩ = some (.int .i64 b.a1) ∧ w'.cell? ⟨w.heap.size + 1, 10, none⟩ = some (.int .i64 b.t1) ∧ w'.cell? ⟨w.heap.size + 1, 11, none⟩ = some (.int .i64 b.c2) ∧ w'.cell? ⟨w.heap.size + 1, 12, none⟩ = some (.int .i64 b.k2) ∧ w'.cell? ⟨w.heap.size + 1, 13, none⟩ = some (.int .i64 b.a2) ∧ w'.cell? ⟨w.heap.size + 1, 14, none⟩ = some (.int .i64 b.t2) ∧ Below y0.heap.size y0 w') (first | assumption | exact heldC30 (by assumption) (by assumption) | exact ⟨c0, c1, c2, c3, c4, c5, c6, c7, c8, c9, c10, c11, c12, c13, c14, e0, e1, e2, e3, e4, e5, e6, e7, e8, e9, e10, e11, e12, e13, e14, Below.refl _ _⟩ | exact ⟨c0, c1, c2, c3, c4, c5, c6, c7, c8, c9, c10, c11, c12, c13, c14, e0, e1, e2, e3, e4, e5, e6, e7, e8, e9, e10, e11, e12, e13, e14, (Below.refl _ _).drew⟩) (first | (go_at_call 15; first | ((with_reducible refine (KA'.out _).mono ?_); rintro e x1 ⟨rfl, xA⟩) | ((with_reducible refine (KB'.out _).mono ?_); rintro e x2 ⟨rfl, xB⟩)) | (go_at_call 14; refine (KS'.out _).mono ?_; rintro e x3 ⟨rfl, xS⟩))
  clear c0 c1 c2 c3 c4 c5 c6 c7 c8 c9 c10 c11 c12 c13 c14 e0 e1 e2 e3 e4 e5 e6 e7 e8 e9 e10 e11 e12 e13 e14
  obtain ⟨c0, c1, c2, c3, c4, c5, c6, c7, c8, c9, c10, c11, c12, c13, c14, e0, e1, e2, e3, e4, e5, e6, e7, e8, e9, e10, e11, e12, e13, e14, sb⟩ : _ ∧ _ ∧ _ ∧ _ ∧ _ ∧ _ ∧ _ ∧ _ ∧ _ ∧ _ ∧ _ ∧ _ ∧ _ ∧ _ ∧ _ ∧ _ ∧ _ ∧ _ ∧ _ ∧ _ ∧ _ ∧ _ ∧ _ ∧ _ ∧ _ ∧ _ ∧ _ ∧ _ ∧ _ ∧ _ ∧ Below y0.heap.size y0 x3 := (by assumption)
  have hT := Below_then hT sb
  clear sb
  go_wp2_with fail
  go_region_held3 (fun w' => w'.cell? ⟨w.heap.size, 0, none⟩ = some (.int .i64 a.d) ∧ w'.cell? ⟨w.heap.size, 1, none⟩ = some (.int .i64 a.l) ∧ w'.cell? ⟨w.heap.size, 2, none⟩ = some (.int .i64 a.p) ∧ w'.cell? ⟨w.heap.size, 3, none⟩ = some (.int .i64 a.q) ∧ w'.cell? ⟨w.heap.size, 4, none⟩ = some (.int .i64 a.o) ∧ w'.cell? ⟨w.heap.size, 5, none⟩ = some (.int .i64 a.li) ∧ w'.cell? ⟨w.heap.size, 6, none⟩ = some (.int .i64 a.t) ∧ w'.cell? ⟨w.heap.size, 7, none⟩ = some (.int .i64 a.c1) ∧ w'.cell? ⟨w.heap.size, 8, none⟩ = some (.int .i64 a.k1) ∧ w'.cell? ⟨w.heap.size, 9, none⟩ = some (.int .i64 a.a1) ∧ w'.cell? ⟨w.heap.size, 10, none⟩ = some (.int .i64 a.t1) ∧ w'.cell? ⟨w.heap.size, 11, none⟩ = some (.int .i64 a.c2) ∧ w'.cell? ⟨w.heap.size, 12, none⟩ = some (.int .i64 a.k2) ∧ w'.cell? ⟨w.heap.size, 13, none⟩ = some (.int .i64 a.a2) ∧ w'.cell? ⟨w.heap.size, 14, none⟩ = some (.int .i64 a.t2) ∧ w'.cell? ⟨w.heap.size + 1, 0, none⟩ = some (.int .i64 b.d) ∧ w'.cell? ⟨w.heap.size + 1, 1, none⟩ = some (.int .i64 b.l) ∧ w'.cell? ⟨w.heap.size + 1, 2, none⟩ = some (.int .i64 b.p) ∧ w'.cell? ⟨w.heap.size + 1, 3, none⟩ = some (.int .i64 b.q) ∧ w'.cell? ⟨w.heap.size + 1, 4, none⟩ = some (.int .i64 b.o) ∧ w'.cell? ⟨w.heap.size + 1, 5, none⟩ = some (.int .i64 b.li) ∧ w'.cell? ⟨w.heap.size + 1, 6, none⟩ = some (.int .i64 b.t) ∧ w'.cell? ⟨w.heap.size + 1, 7, none⟩ = some (.int .i64 b.c1) ∧ w'.cell? ⟨w.heap.size + 1, 8, none⟩ = some (.int .i64 b.k1) ∧ w'.cell? ⟨w.heap.size + 1, 9, none⟩ = some (.int .i64 b.a1) ∧ w'.cell? ⟨w.heap.size + 1, 10, none⟩ = some (.int .i64 b.t1) ∧ w'.cell? ⟨w.heap.size + 1, 11, none⟩ = some (.int .i64 b.c2) ∧ w'.cell? ⟨w.heap.size + 1, 12, none⟩ = some (.int .i64 b.k2) ∧ w'.cell? ⟨w.heap.size + 1, 13, none⟩ = some (.int .i64 b.a2) ∧ w'.cell? ⟨w.heap.size + 1, 14, none⟩ = some (.int .i64 b.t2) ∧ Below x3.heap.size x3 w') (first | assumption | exact heldC30 (by assumption) (by assumption) | exact ⟨c0, c1, c2, c3, c4, c5, c6, c7, c8, c9, c10, c11, c12, c13, c14, e0, e1, e2, e3, e4, e5, e6, e7, e8, e9, e10, e11, e12, e13, e14, Below.refl _ _⟩ | exact ⟨c0, c1, c2, c3, c4, c5, c6, c7, c8, c9, c10, c11, c12, c13, c14, e0, e1, e2, e3, e4, e5, e6, e7, e8, e9, e10, e11, e12, e13, e14, (Below.refl _ _).drew⟩) (first | (go_at_call 15; first | ((with_reducible refine (KA'.out _).mono ?_); rintro e z1 ⟨rfl, zA⟩) | ((with_reducible refine (KB'.out _).mono ?_); rintro e z2 ⟨rfl, zB⟩)) | (go_at_call 16; refine (KI'.out _).mono ?_; rintro e z3 ⟨rfl, zS⟩))
  clear c0 c1 c2 c3 c4 c5 c6 c7 c8 c9 c10 c11 c12 c13 c14 e0 e1 e2 e3 e4 e5 e6 e7 e8 e9 e10 e11 e12 e13 e14
  obtain ⟨c0, c1, c2, c3, c4, c5, c6, c7, c8, c9, c10, c11, c12, c13, c14, e0, e1, e2, e3, e4, e5, e6, e7, e8, e9, e10, e11, e12, e13, e14, sb⟩ : _ ∧ _ ∧ _ ∧ _ ∧ _ ∧ _ ∧ _ ∧ _ ∧ _ ∧ _ ∧ _ ∧ _ ∧ _ ∧ _ ∧ _ ∧ _ ∧ _ ∧ _ ∧ _ ∧ _ ∧ _ ∧ _ ∧ _ ∧ _ ∧ _ ∧ _ ∧ _ ∧ _ ∧ _ ∧ _ ∧ Below x3.heap.size x3 z3 := (by assumption)
  have hT := Below_then hT sb
  clear sb
  go_wp2
  go_ret
  exact ⟨rfl, hT⟩

/-! ### The row's step: written by a program of mine (frame.py) after the kit's shell -/
theorem laidOut : laidOutB Try.prog = true := by kernel_rfl
set_option maxRecDepth 100000 in
theorem lifted (os : Os) (started : os.Started) (H : Type) (enc : TypeId × Value → H) :
    ReturnsInHanded {} Try.checked os 3 .any (Rows.fnExactArmsDifferencesSpec.pre6 enc Try.prog Try.f3 Rows.fnExactArmsDifferencesRow.domain false) (Rows.fnExactArmsDifferencesSpec.post enc Try.prog Try.f3 false true false false) := by
  refine returnsInHanded_of_change (C := Try.checked) own started (by kernel_rfl) Try.func3
    (ChangeSpec.witness6 (enc := enc) (C := Try.checked) false ⟨#[], #[.agg #[.int .i64 0, .int .i64 0, .int .i64 0, .int .i64 0, .int .i64 0, .int .i64 0, .int .i64 0, .int .i64 0, .int .i64 0, .int .i64 0, .int .i64 0, .int .i64 0, .int .i64 0, .int .i64 0, .int .i64 0], .agg #[.int .i64 0, .int .i64 0, .int .i64 0, .int .i64 0, .int .i64 0, .int .i64 0, .int .i64 0, .int .i64 0, .int .i64 0, .int .i64 0, .int .i64 0, .int .i64 0, .int .i64 0, .int .i64 0, .int .i64 0]], []⟩ 8 (by kernel_rfl) (by kernel_rfl) (by kernel_rfl) (by kernel_rfl)) ?_
  intro W base args ds gs before hval0 hW hcnd _
  have hval : ∀ (j : Nat) t v, Try.f3.params[j]? = some t → args[j]? = some v → Value.okWide Try.prog W .any base t v := hval0
  have hW' := hW
  obtain ⟨p, q, hA0, hV, rfl, hfz, hnd⟩ := hW
  have hA : DataW.TrodAll enc Try.prog W 0 (fun _ => true) true Try.f3.params.toList args.toList ds p := hA0
  rw [Try.params3] at hA hval
  obtain ⟨v0, vs0, d0, ds0, p0, q0, hargs, rfl, rfl, h0, r0⟩ := trodAll_cons hA
  obtain ⟨v1, vs1, d1, ds1, p1, q1, rfl, rfl, rfl, h1, r1⟩ := trodAll_cons r0
  obtain ⟨rfl, rfl, rfl⟩ := trodAll_nil r1
  obtain rfl : args = #[v0, v1] := by cases args; simp_all
  obtain ⟨rfl, rfl⟩ := trodVars_none hV
  have k0 := h0
  have lt0 : ∀ x ∈ p0, x.block < W.heap.size := by obtain ⟨m, hm⟩ := k0; exact DataW.trod_lt m _ _ _ hm
  obtain ⟨a0, rfl, w0⟩ := openArms (hval 0 27 v0 rfl rfl) h0
  have k1 := h1
  have lt1 : ∀ x ∈ p1, x.block < W.heap.size := by obtain ⟨m, hm⟩ := k1; exact DataW.trod_lt m _ _ _ hm
  obtain ⟨a1, rfl, w1⟩ := openArms (hval 1 27 v1 rfl rfl) h1
  clear hA0 hval0
  refine (walk a0 w0 a1 w1 W).mono fun e W' ⟨he, bel⟩ => ?_
  subst he
  exact ⟨_, rfl, _, _, _, [], _, [], hW', trodAll_mk1 (shut_bool Try.underlying4 _), (trodAll_cons_mk (Below.trod laidOut (by kernel_rfl) (of_decide_eq_true (by kernel_rfl)) k0 bel lt0) (trodAll_cons_mk (Below.trod laidOut (by kernel_rfl) (of_decide_eq_true (by kernel_rfl)) k1 bel lt1) trodAll_mk0)), rfl, bel.frame _, fun h => by cases h⟩

theorem over : Rows.fnExactArmsDifferencesRow.holds Try.pinned (OpenSpec.ofChange Rows.fnExactArmsDifferencesSpec) :=
  OpenClaim.holds_of_wide 3 Try.f3 rfl rfl rfl rfl rfl rfl rfl ⟨rfl, rfl, rfl, rfl, rfl⟩ rfl rfl rfl rfl rfl (by kernel_rfl) Try.func3 (by kernel_rfl)
    (of_decide_eq_true (by kernel_rfl)) (by unfold Func.isWrapper; first | (rw [if_pos (by decide +kernel)]; kernel_rfl) | (rw [if_neg (by decide +kernel)]; exact ⟨rfl, rfl⟩))
    (fun os started H enc _ => lifted os started H enc)

theorem proved : Rows.FnExactArmsDifferencesSaid := over
#print axioms proved

end Go.Proofs.Ytfpkdianampjkaa.fnExactArmsDifferences
