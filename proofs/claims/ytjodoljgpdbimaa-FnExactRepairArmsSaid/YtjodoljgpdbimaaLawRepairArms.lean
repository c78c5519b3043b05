/- FnExactRepairArms: for all arguments RepairArms of the program returns what RepairArms of the reference returns. No condition. -/
import Derived.Test.YtjodoljgpdbimaaRows
import Derived.Test.YtjodoljgpdbimaaRep4
import Derived.Test.YtjodoljgpdbimaaIdx
import Derived.Test.YtjodoljgpdbimaaRArms2
import Derived.Test.YtjodoljgpdbimaaAOpen
namespace Go.Proofs.Ytjodoljgpdbimaa.fnExactRepairArms
open Go.ChangeShapes Go.WideShapes Go.ChangeAt Go.RowKit
set_option linter.unusedVariables false

set_option maxHeartbeats 4000000 in
theorem walk (a : ArmsD) (wa : ∀ z ∈ [a.d, a.l, a.p, a.q, a.o, a.li, a.t, a.c1, a.k1, a.a1, a.t1, a.c2, a.k2, a.a2, a.t2], (Lit.int .i64 z).wf = true) (w : World) :
    Calls Try.prog 3 #[.agg #[.int .i64 a.d, .int .i64 a.l, .int .i64 a.p, .int .i64 a.q, .int .i64 a.o, .int .i64 a.li, .int .i64 a.t, .int .i64 a.c1, .int .i64 a.k1, .int .i64 a.a1, .int .i64 a.t1, .int .i64 a.c2, .int .i64 a.k2, .int .i64 a.a2, .int .i64 a.t2]] w fun e w' => e = .returned (.bool true) ∧ Below w.heap.size w w' := by
  clear wa
  obtain ⟨rn, hrn⟩ : ∃ n : Int, n = (repN a : Int) := ⟨_, rfl⟩
  have KS := Lib.hid (fun w => hrn ▸ specRepair_any a w : ∀ w, Calls Try.prog 5 #[.agg (ac a).toArray] w fun e w' => e = .returned (.tuple #[.agg (ac (repA a)).toArray, .int .i64 rn, .bool (repOk a)]) ∧ Below w.heap.size w w')
  have KI := Lib.hid (fun w => hrn ▸ implRepair_any a w : ∀ w, Calls Try.prog 7 #[.agg (ac a).toArray] w fun e w' => e = .returned (.tuple #[.agg (ac (repA a)).toArray, .int .i64 rn, .bool (repOk a)]) ∧ Below w.heap.size w w')
  clear hrn
  obtain ⟨b, hb⟩ : ∃ b, b = repA a := ⟨_, rfl⟩
  obtain ⟨ok, hok⟩ : ∃ b, b = repOk a := ⟨_, rfl⟩
  rw [← hb, ← hok] at KS KI
  clear hb hok
  show Calls Try.prog 3 #[.agg (ac a).toArray] w _
  obtain ⟨W0, hW0⟩ : ∃ W0, W0 = w.alloc (.cells (ac a).toArray 27) := ⟨_, rfl⟩
  have hs0 : W0.heap.size = w.heap.size + 1 := by rw [hW0, World.size_alloc]
  have HHa := Lib.hid (show ∀ w', Below W0.heap.size W0 w' → w'.rangeAt w.heap.size 0 (ac a) from fun w' h => rangeAt_blk (heap_keepB (by rw [hW0]; exact heap_hit _ _ _ rfl) h))
  have HTw := Lib.hid (show Below w.heap.size w W0 from by rw [hW0]; exact Below_al (Below.refl _ _) _)
  have HW0 := Lib.hid hW0
  clear hW0
  cases ok
  all_goals
    go_enter Try.func3, Try.ntmps3
    go_wp2_with (first | (refine wpList_load_mid rfl _ _ rfl w.heap.size 0 rfl (ac a) _ (by rw [← HW0.out]; exact HHa.out _ (Below.refl _ _)) Try.underlying27 rfl (info_acL a) ?_) | fail)
    refine (toArmsC a _).mono ?_
    rintro e w1 ⟨rfl, hb1⟩
    have hT1 : Below W0.heap.size W0 w1 := by rw [HW0.out]; exact hb1
    clear hb1
    go_wp2_with fail
    refine (KS.out _).mono ?_
    rintro e w2 ⟨rfl, hb2⟩
    have hT2 := Below_then hT1 hb2
    have hs2 := hT2.size
    clear hb2 hT1
    go_wp2_with (first | (refine stAw rfl _ _ rfl w2.heap.size rfl b rfl _ (heap_hit _ _ _ rfl) rfl ?_; intro w3 hg3 hw3; have hT3 := (Below_al hT2 _).grown hw3 (by rw [World.size_alloc]; omega) (by intro k e; injection e with e; omega); have hlt3 := heap_lt hg3; clear hw3 hT2) | (refine wpList_load_mid rfl _ _ rfl w.heap.size 0 rfl (ac a) _ (HHa.out _ hT3) Try.underlying27 rfl (info_acL a) ?_) | fail)
    refine (toArmsC a _).mono ?_
    rintro e w4 ⟨rfl, hb4⟩
    go_wp2_with fail
    refine (KI.out _).mono ?_
    rintro e w5 ⟨rfl, hb5⟩
    have hQ5 := Below_then hb4 hb5
    have hs5 := hQ5.size
    have hs3 := hT3.size
    clear hb4 hb5
    go_wp2_with (first | (refine stAw rfl _ _ rfl w5.heap.size rfl b rfl _ (heap_hit _ _ _ rfl) rfl ?_; intro w6 hg6 hw6; have hQ6 := (Below_al hQ5 _).grown hw6 (by rw [World.size_alloc]; omega) (by intro k e; injection e with e; omega); have hg36 := heap_keepB hg3 hQ6; have hT6 := Below_then hT3 hQ6; clear hw6 hQ5) | (refine wpList_load_mid rfl _ _ rfl w5.heap.size 0 rfl (ac b) _ (rangeAt_blk hg6) Try.underlying31 rfl (info_ac b) ?_) | (refine wpList_load_mid rfl _ _ rfl w2.heap.size 0 rfl (ac b) _ (rangeAt_blk hg36) Try.underlying31 rfl (info_ac b) ?_) | fail)
    refine (eqArmsC b _).mono ?_
    rintro e w7 ⟨rfl, hb7⟩
    have hT := Below_then HTw.out (Below_then hT6 hb7)
    clear hb7 hT6 hg3 hg36 hg6
    go_wp2_with fail
    go_ret
    exact ⟨rfl, hT⟩

/-! ### The row's step: written by a program of mine (frame.py) after the kit's shell -/
theorem laidOut : laidOutB Try.prog = true := by kernel_rfl
set_option maxRecDepth 100000 in
theorem lifted (os : Os) (started : os.Started) (H : Type) (enc : TypeId × Value → H) :
    ReturnsInHanded {} Try.checked os 3 .any (Rows.fnExactRepairArmsSpec.pre6 enc Try.prog Try.f3 Rows.fnExactRepairArmsRow.domain false) (Rows.fnExactRepairArmsSpec.post enc Try.prog Try.f3 false true false false) := by
  refine returnsInHanded_of_change (C := Try.checked) own started (by kernel_rfl) Try.func3
    (ChangeSpec.witness6 (enc := enc) (C := Try.checked) false ⟨#[], #[.agg #[.int .i64 0, .int .i64 0, .int .i64 0, .int .i64 0, .int .i64 0, .int .i64 0, .int .i64 0, .int .i64 0, .int .i64 0, .int .i64 0, .int .i64 0, .int .i64 0, .int .i64 0, .int .i64 0, .int .i64 0]], []⟩ 8 (by kernel_rfl) (by kernel_rfl) (by kernel_rfl) (by kernel_rfl)) ?_
  intro W base args ds gs before hval0 hW hcnd _
  have hval : ∀ (j : Nat) t v, Try.f3.params[j]? = some t → args[j]? = some v → Value.okWide Try.prog W .any base t v := hval0
  have hW' := hW
  obtain ⟨p, q, hA0, hV, rfl, hfz, hnd⟩ := hW
  have hA : DataW.TrodAll enc Try.prog W 0 (fun _ => true) true Try.f3.params.toList args.toList ds p := hA0
  rw [Try.params3] at hA hval
  obtain ⟨v0, vs0, d0, ds0, p0, q0, hargs, rfl, rfl, h0, r0⟩ := trodAll_cons hA
  obtain ⟨rfl, rfl, rfl⟩ := trodAll_nil r0
  obtain rfl : args = #[v0] := by cases args; simp_all
  obtain ⟨rfl, rfl⟩ := trodVars_none hV
  have k0 := h0
  have lt0 : ∀ x ∈ p0, x.block < W.heap.size := by obtain ⟨m, hm⟩ := k0; exact DataW.trod_lt m _ _ _ hm
  obtain ⟨a0, rfl, w0⟩ := openArms (hval 0 27 v0 rfl rfl) h0
  clear hA0 hval0
  refine (walk a0 w0 W).mono fun e W' ⟨he, bel⟩ => ?_
  subst he
  exact ⟨_, rfl, _, _, _, [], _, [], hW', trodAll_mk1 (shut_bool Try.underlying4 _), (trodAll_cons_mk (Below.trod laidOut (by kernel_rfl) (of_decide_eq_true (by kernel_rfl)) k0 bel lt0) trodAll_mk0), rfl, bel.frame _, fun h => by cases h⟩

theorem over : Rows.fnExactRepairArmsRow.holds Try.pinned (OpenSpec.ofChange Rows.fnExactRepairArmsSpec) :=
  OpenClaim.holds_of_wide 3 Try.f3 rfl rfl rfl rfl rfl rfl rfl ⟨rfl, rfl, rfl, rfl, rfl⟩ rfl rfl rfl rfl rfl (by kernel_rfl) Try.func3 (by kernel_rfl)
    (of_decide_eq_true (by kernel_rfl)) (by unfold Func.isWrapper; first | (rw [if_pos (by decide +kernel)]; kernel_rfl) | (rw [if_neg (by decide +kernel)]; exact ⟨rfl, rfl⟩))
    (fun os started H enc _ => lifted os started H enc)

theorem proved : Rows.FnExactRepairArmsSaid := over
#print axioms proved
end Go.Proofs.Ytjodoljgpdbimaa.fnExactRepairArms
