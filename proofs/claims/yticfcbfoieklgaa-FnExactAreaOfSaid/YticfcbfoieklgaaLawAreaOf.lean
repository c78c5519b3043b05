/- FnExactAreaOf: for all arguments AreaOf of the program returns what AreaOf of the reference returns. No condition. -/
import Derived.Test.YticfcbfoieklgaaRows
import Derived.Test.YticfcbfoieklgaaArea
import Derived.Test.YticfcbfoieklgaaRegArg
namespace Go.Proofs.Yticfcbfoieklgaa.fnExactAreaOf
open Go.ChangeShapes Go.WideShapes Go.ChangeAt Go.RowKit
set_option linter.unusedVariables false

set_option maxHeartbeats 4000000 in
theorem walk (w : World) (A0 : Option Addr) (c0 : Nat) (z0 : List Int) (u0 : RdI w A0 z0) (l0 : z0.length ≤ maxLen) (w0 : ∀ z ∈ z0, (Lit.int .i64 z).wf = true) :
    Calls Try.prog 11 #[.agg #[.slice A0 z0.length c0]] w fun e w' => e = .returned (.bool true) ∧ Below w.heap.size w w' := by
  have HW := Lib.hid (show ∀ z ∈ z0, z < 2 ^ 63 from fun z hz => by have := w0 z hz; simp [Lit.wf] at this; omega)
  clear w0
  go_enter Try.func11, Try.ntmps11
  have hT := Below.refl w.heap.size w
  replace hT := Below_al hT (.cells #[.slice A0 z0.length c0] 34 (0, 0))
  have hF0 : ((w).alloc (.cells #[.slice A0 z0.length c0] 34 (0, 0))).heap[w.heap.size]? = some (.cells #[.slice A0 z0.length c0] 34 (0, 0)) := heap_hit _ _ _ (by simp)
  obtain ⟨z, hlez, horz, HZz⟩ := szRegion_fits A0 z0.length c0 1048576 (by omega) (by omega) l0
  have HZz' := Lib.hid HZz
  clear HZz
  have k_hF0_0 : _ = some (.slice A0 z0.length c0 : Value) := cell_of hF0 0
  go_wp2_with fail
  clear k_hF0_0
  refine (HZz'.out _).mono ?_
  rintro e y1 ⟨rfl, hy1⟩
  replace hT := Below_then hT hy1
  replace hF0 := heap_keepB hF0 hy1
  clear HZz'
  rcases horz with rfl | ⟨hpz, hqz⟩
  · go_wp2
    go_ret
    exact ⟨rfl, hT⟩
  have HX0 := Lib.hid (show z0.length ≤ 1048576 by omega)
  clear hqz
  obtain ⟨x, b, KS, KI⟩ : ∃ (x : Int) (b : Bool), (∀ (A : Option Addr) (c : Nat) (w : World), RdI w A z0 → Calls Try.prog 36 #[.agg #[.slice A z0.length c]] w fun e w' => e = .returned (.tuple #[.int .i64 x, .bool b]) ∧ Below w.heap.size w w') ∧ (∀ (A : Option Addr) (c : Nat) (w : World), RdI w A z0 → Calls Try.prog 37 #[.agg #[.slice A z0.length c]] w fun e w' => e = .returned (.tuple #[.int .i64 x, .bool b]) ∧ Below w.heap.size w w') := ⟨_, _, fun A c w h => specAreaOf_any A c z0 w h (by have := HX0.out; omega), fun A c w h => AreaOf_any A c z0 w h HW.out⟩
  have KS' := Lib.hid KS
  have KI' := Lib.hid KI
  clear KS KI
  have k_hF0_0 : _ = some (.slice A0 z0.length c0 : Value) := cell_of hF0 0
  go_wp2_with fail
  clear k_hF0_0
  refine (toRegion_any A0 c0 z0 _ (RdI.below u0 hT) (by have := HX0.out; omega)).mono ?_
  rintro e y2 ⟨v2, rfl, ho2, hy2⟩
  replace hT := Below_then hT hy2
  replace hF0 := heap_keepB hF0 hy2
  obtain ⟨B2, d2, rfl, hr2⟩ := ho2.form
  go_wp2_with fail
  refine (KS'.out B2 d2 _ hr2).mono ?_
  rintro e y3 ⟨rfl, hy3⟩
  replace hT := Below_then hT hy3
  replace hF0 := heap_keepB hF0 hy3
  replace ho2 := ho2.below hy3
  have k_hF0_0 : _ = some (.slice A0 z0.length c0 : Value) := cell_of hF0 0
  go_wp2_with fail
  clear k_hF0_0
  refine (toRegion_any A0 c0 z0 _ (RdI.below u0 hT) (by have := HX0.out; omega)).mono ?_
  rintro e y4 ⟨v4, rfl, ho4, hy4⟩
  replace hT := Below_then hT hy4
  replace hF0 := heap_keepB hF0 hy4
  replace ho2 := ho2.below hy4
  obtain ⟨B4, d4, rfl, hr4⟩ := ho4.form
  replace hT := Below_al hT (.cells #[.slice B4 z0.length d4] 29 (0, 0))
  replace hF0 := heap_keepA hF0 (.cells #[.slice B4 z0.length d4] 29 (0, 0))
  replace ho2 := ho2.alloc (.cells #[.slice B4 z0.length d4] 29 (0, 0))
  replace ho4 := ho4.alloc (.cells #[.slice B4 z0.length d4] 29 (0, 0))
  have hX : ((y4).alloc (.cells #[.slice B4 z0.length d4] 29 (0, 0))).heap[(y4).heap.size]? = some (.cells #[.slice B4 z0.length d4] 29 (0, 0)) := heap_hit _ _ _ rfl
  go_wp2_with fail
  refine (KI'.out B4 d4 _ (hr4.alloc _)).mono ?_
  rintro e y5 ⟨rfl, hy5⟩
  replace hT := Below_then hT hy5
  replace hF0 := heap_keepB hF0 hy5
  replace ho2 := ho2.below hy5
  replace ho4 := ho4.below hy5
  replace hX := heap_keepB hX hy5
  have k_hF0_0 : _ = some (.slice A0 z0.length c0 : Value) := cell_of hF0 0
  have k_hX_0 : _ = some (.slice B4 z0.length d4 : Value) := cell_of hX 0
  go_wp2_with fail
  have hrr := (ho4).form
  obtain ⟨_, _, hre, hrx⟩ := hrr
  injection hre with e1 e2 e3
  subst e1
  clear e2 e3
  go_region_held3 (fun w' => w'.cell? ⟨w.heap.size, 0, none⟩ = some (.slice A0 z0.length c0 : Value) ∧ w'.cell? ⟨y4.heap.size, 0, none⟩ = some (.slice B4 z0.length d4 : Value) ∧ RdI w' B4 z0 ∧ Below w.heap.size w w') (first | assumption | exact keepA (by assumption) (by assumption) | exact ⟨k_hF0_0, k_hX_0, hrx, hT⟩ | exact ⟨k_hF0_0, k_hX_0, hrx, hT.drew⟩) (first | (go_at_call 30; obtain ⟨-, -, sr, sb⟩ : _ ∧ _ ∧ RdI _ B4 z0 ∧ Below w.heap.size w _ := (by assumption); refine (toRegion_any A0 c0 z0 _ (RdI.below u0 sb) (by have := HX0.out; omega)).mono ?_; rintro e x3 ⟨u3, rfl, g3, xb3⟩; obtain ⟨C3, e3, rfl, xr3⟩ := g3.form) | (go_at_call 25; obtain ⟨-, -, sr, sb⟩ : _ ∧ _ ∧ RdI _ B4 z0 ∧ Below w.heap.size w _ := (by assumption); refine (eqRegion_refl B4 C3 _ _ z0 _ sr xr3 (by have := HX0.out; omega)).mono ?_; rintro e x4 ⟨rfl, xb4⟩))
  go_wp2
  go_ret
  exact ⟨rfl, And.right (And.right (And.right (by assumption)))⟩

/-! ### The row's step: written by a program of mine (frame.py) after the kit's shell -/
theorem laidOut : laidOutB Try.prog = true := by kernel_rfl
set_option maxRecDepth 100000 in
theorem lifted (os : Os) (started : os.Started) (H : Type) (enc : TypeId × Value → H) :
    ReturnsInHanded {} Try.checked os 11 .any (Rows.fnExactAreaOfSpec.pre6 enc Try.prog Try.f11 Rows.fnExactAreaOfRow.domain false) (Rows.fnExactAreaOfSpec.post enc Try.prog Try.f11 false true false false) := by
  refine returnsInHanded_of_change (C := Try.checked) own started (by kernel_rfl) Try.func11
    (ChangeSpec.witness6 (enc := enc) (C := Try.checked) false ⟨#[], #[.agg #[.slice none 0 0]], []⟩ 8 (by kernel_rfl) (by kernel_rfl) (by kernel_rfl) (by kernel_rfl)) ?_
  intro W base args ds gs before hval0 hW hcnd _
  have hval : ∀ (j : Nat) t v, Try.f11.params[j]? = some t → args[j]? = some v → Value.okWide Try.prog W .any base t v := hval0
  have hW' := hW
  obtain ⟨p, q, hA0, hV, rfl, hfz, hnd⟩ := hW
  have hA : DataW.TrodAll enc Try.prog W 0 (fun _ => true) true Try.f11.params.toList args.toList ds p := hA0
  rw [Try.params11] at hA hval
  obtain ⟨v0, vs0, d0, ds0, p0, q0, hargs, rfl, rfl, h0, r0⟩ := trodAll_cons hA
  obtain ⟨rfl, rfl, rfl⟩ := trodAll_nil r0
  obtain rfl : args = #[v0] := by cases args; simp_all
  obtain ⟨rfl, rfl⟩ := trodVars_none hV
  have k0 := h0
  have lt0 : ∀ x ∈ p0, x.block < W.heap.size := by obtain ⟨m, hm⟩ := k0; exact DataW.trod_lt m _ _ _ hm
  obtain ⟨A0, c0, z0, rfl, u0, l0, w0⟩ := openRegion (hval 0 34 v0 rfl rfl) h0
  clear hA0 hval0
  refine (walk W A0 c0 z0 u0 l0 w0).mono fun e W' ⟨he, bel⟩ => ?_
  subst he
  exact ⟨_, rfl, _, _, _, [], _, [], hW', trodAll_mk1 (shut_bool Try.underlying4 _), (trodAll_cons_mk (Below.trod laidOut (by kernel_rfl) (of_decide_eq_true (by kernel_rfl)) k0 bel lt0) trodAll_mk0), rfl, bel.frame _, fun h => by cases h⟩

theorem over : Rows.fnExactAreaOfRow.holds Try.pinned (OpenSpec.ofChange Rows.fnExactAreaOfSpec) :=
  OpenClaim.holds_of_wide 11 Try.f11 rfl rfl rfl rfl rfl rfl rfl ⟨rfl, rfl, rfl, rfl, rfl⟩ rfl rfl rfl rfl rfl (by kernel_rfl) Try.func11 (by kernel_rfl)
    (of_decide_eq_true (by kernel_rfl)) (by unfold Func.isWrapper; first | (rw [if_pos (by decide +kernel)]; kernel_rfl) | (rw [if_neg (by decide +kernel)]; exact ⟨rfl, rfl⟩))
    (fun os started H enc _ => lifted os started H enc)

theorem proved : Rows.FnExactAreaOfSaid := over
#print axioms proved

end Go.Proofs.Yticfcbfoieklgaa.fnExactAreaOf
