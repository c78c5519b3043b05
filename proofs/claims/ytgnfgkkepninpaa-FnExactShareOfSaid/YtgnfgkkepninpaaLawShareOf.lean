/- FnExactShareOf: for all arguments ShareOf of the program returns what ShareOf of the reference returns. No condition. -/
import Derived.Test.YtgnfgkkepninpaaRows
import Derived.Test.YtgnfgkkepninpaaShare
import Derived.Test.YtgnfgkkepninpaaGOpen
namespace Go.Proofs.Ytgnfgkkepninpaa.fnExactShareOf
open Go.ChangeShapes Go.WideShapes Go.ChangeAt Go.RowKit
set_option linter.unusedVariables false

set_option maxHeartbeats 1000000 in
theorem walk (w : World) (A0 : Option Addr) (c0 : Nat) (z0 : List (List Int)) (u0 : RdG w A0 z0) (l0 : z0.length ≤ maxLen) (w0 : ∀ row ∈ z0, row.length ≤ maxLen ∧ ∀ z ∈ row, (Lit.int .i64 z).wf = true) (a1 : Int) (w1 : (Lit.int .i64 a1).wf = true) :
    Calls Try.prog 8 #[.slice A0 z0.length c0, .int .i64 a1] w fun e w' => e = .returned (.bool true) ∧ Below w.heap.size w w' := by
  have hT := Below.refl w.heap.size w
  go_enter Try.func8, Try.ntmps8
  go_wp2_with fail
  refine (szIntSS_any A0 c0 z0 1048576 _ u0 (by omega) (by omega) l0 (fun r hr => (w0 r hr).1)).mono ?_
  rintro e y0 ⟨y, rfl, hy, rfl⟩
  rcases hy with rfl | ⟨g0, g1, s1, s2⟩
  · go_wp2
    go_ret
    exact ⟨rfl, hT⟩
  have HS := Lib.hid (show Small z0 from ⟨s1, s2⟩)
  clear s1 s2
  obtain ⟨n, m, x, KS, KI⟩ : ∃ (n m : Int) (x : Bool), (∀ (A : Option Addr) (c : Nat) (w : World), RdG w A z0 → Calls Try.prog 30 #[.slice A z0.length c, .int .i64 a1] w fun e w' => e = .returned (.tuple #[.int .i64 n, .int .i64 m, .bool x]) ∧ Below w.heap.size w w') ∧ (∀ (A : Option Addr) (c : Nat) (w : World), RdG w A z0 → Calls Try.prog 31 #[.slice A z0.length c, .int .i64 a1] w fun e w' => e = .returned (.tuple #[.int .i64 n, .int .i64 m, .bool x]) ∧ Below w.heap.size w w') := ⟨_, _, _, fun A c w h => specShareOf_any A c z0 a1 w h HS.out, fun A c w h => ShareOf_any A c z0 a1 w h HS.out⟩
  have KS' := Lib.hid KS
  have KI' := Lib.hid KI
  clear KS KI l0 w0
  go_wp2_with fail
  refine (toIntSS_any A0 c0 z0 _ (u0.below hT) HS.out).mono ?_
  rintro e y1 ⟨g1, vs1, rfl, ho1, hy1⟩
  have hr1 := ho1.rd
  have hT := Below_then hT hy1
  clear ho1 hy1
  go_wp2_with fail
  refine (KS'.out _ _ _ hr1).mono ?_
  rintro e y2 ⟨rfl, hy2⟩
  have hT := Below_then hT hy2
  clear hr1 hy2
  go_wp2_with fail
  refine (toIntSS_any A0 c0 z0 _ (u0.below hT) HS.out).mono ?_
  rintro e y3 ⟨g3, vs3, rfl, ho3, hy3⟩
  have hr3 := ho3.rd
  have hT := Below_then hT hy3
  clear ho3 hy3
  go_wp2_with fail
  refine (KI'.out _ _ _ hr3).mono ?_
  rintro e y4 ⟨rfl, hy4⟩
  have hr4 := hr3.below hy4
  have hT := Below_then hT hy4
  clear hr3 hy4
  go_wp2_with fail
  refine (toIntSS_any A0 c0 z0 _ (u0.below hT) HS.out).mono ?_
  rintro e y5 ⟨g5, vs5, rfl, ho5, hy5⟩
  have hr5 := ho5.rd
  have hr6 := hr4.below hy5
  have hT := Below_then hT hy5
  clear ho5 hy5 hr4
  go_wp2_with fail
  refine (eqIntSS_same _ _ _ _ z0 _ hr6 hr5 HS.out).mono ?_
  rintro e y6 ⟨rfl, hy6⟩
  have hT := Below_then hT hy6
  clear hr5 hr6 hy6
  go_wp2
  go_ret
  exact ⟨rfl, hT⟩

/-! ### The row's step: written by a program of mine (frame.py) after the kit's shell -/
theorem laidOut : laidOutB Try.prog = true := by kernel_rfl
set_option maxRecDepth 100000 in
theorem lifted (os : Os) (started : os.Started) (H : Type) (enc : TypeId × Value → H) :
    ReturnsInHanded {} Try.checked os 8 .any (Rows.fnExactShareOfSpec.pre6 enc Try.prog Try.f8 Rows.fnExactShareOfRow.domain false) (Rows.fnExactShareOfSpec.post enc Try.prog Try.f8 false true false false) := by
  refine returnsInHanded_of_change (C := Try.checked) own started (by kernel_rfl) Try.func8
    (ChangeSpec.witness6 (enc := enc) (C := Try.checked) false ⟨#[], #[.slice none 0 0, .int .i64 0], []⟩ 8 (by kernel_rfl) (by kernel_rfl) (by kernel_rfl) (by kernel_rfl)) ?_
  intro W base args ds gs before hval0 hW hcnd _
  have hval : ∀ (j : Nat) t v, Try.f8.params[j]? = some t → args[j]? = some v → Value.okWide Try.prog W .any base t v := hval0
  have hW' := hW
  obtain ⟨p, q, hA0, hV, rfl, hfz, hnd⟩ := hW
  have hA : DataW.TrodAll enc Try.prog W 0 (fun _ => true) true Try.f8.params.toList args.toList ds p := hA0
  rw [Try.params8] at hA hval
  obtain ⟨v0, vs0, d0, ds0, p0, q0, hargs, rfl, rfl, h0, r0⟩ := trodAll_cons hA
  obtain ⟨v1, vs1, d1, ds1, p1, q1, rfl, rfl, rfl, h1, r1⟩ := trodAll_cons r0
  obtain ⟨rfl, rfl, rfl⟩ := trodAll_nil r1
  obtain rfl : args = #[v0, v1] := by cases args; simp_all
  obtain ⟨rfl, rfl⟩ := trodVars_none hV
  have k0 := h0
  have lt0 : ∀ x ∈ p0, x.block < W.heap.size := by obtain ⟨m, hm⟩ := k0; exact DataW.trod_lt m _ _ _ hm
  obtain ⟨A0, c0, z0, rfl, u0, l0, w0⟩ := openGrid (hval 0 34 v0 rfl rfl) h0
  have k1 := h1
  have lt1 : ∀ x ∈ p1, x.block < W.heap.size := by obtain ⟨m, hm⟩ := k1; exact DataW.trod_lt m _ _ _ hm
  obtain ⟨a1, rfl, -, -, w1⟩ := open_int Try.underlying3 (hval 1 3 v1 rfl rfl) h1
  clear hA0 hval0
  refine (walk W A0 c0 z0 u0 l0 w0 a1 w1).mono fun e W' ⟨he, bel⟩ => ?_
  subst he
  exact ⟨_, rfl, _, _, _, [], _, [], hW', trodAll_mk1 (shut_bool Try.underlying4 _), (trodAll_cons_mk (Below.trod laidOut (by kernel_rfl) (of_decide_eq_true (by kernel_rfl)) k0 bel lt0) (trodAll_cons_mk (Below.trod laidOut (by kernel_rfl) (of_decide_eq_true (by kernel_rfl)) k1 bel lt1) trodAll_mk0)), rfl, bel.frame _, fun h => by cases h⟩

theorem over : Rows.fnExactShareOfRow.holds Try.pinned (OpenSpec.ofChange Rows.fnExactShareOfSpec) :=
  OpenClaim.holds_of_wide 8 Try.f8 rfl rfl rfl rfl rfl rfl rfl ⟨rfl, rfl, rfl, rfl, rfl⟩ rfl rfl rfl rfl rfl (by kernel_rfl) Try.func8 (by kernel_rfl)
    (of_decide_eq_true (by kernel_rfl)) (by unfold Func.isWrapper; first | (rw [if_pos (by decide +kernel)]; kernel_rfl) | (rw [if_neg (by decide +kernel)]; exact ⟨rfl, rfl⟩))
    (fun os started H enc _ => lifted os started H enc)

theorem proved : Rows.FnExactShareOfSaid := over
#print axioms proved

end Go.Proofs.Ytgnfgkkepninpaa.fnExactShareOf
