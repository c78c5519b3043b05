/- FnExactNearestArms: for all arguments NearestArms of the program returns what NearestArms of the reference returns. No condition. -/
import Derived.Test.YtpboheaiigbfbaaRows
import Derived.Test.YtpboheaiigbfbaaNear2
import Derived.Test.YtpboheaiigbfbaaRAOpen
namespace Go.Proofs.Ytpboheaiigbfbaa.fnExactNearestArms
open Go.ChangeShapes Go.WideShapes Go.ChangeAt Go.RowKit
set_option linter.unusedVariables false

theorem heldR1 {a w w' : World} {b o : Nat} {u : List Value} (h : w.rangeAt b o u ∧ Below a.heap.size a w) (hb : Below w.heap.size w w') : w'.rangeAt b o u ∧ Below a.heap.size a w' := ⟨rangeAt_below h.1 hb, Below_then h.2 hb⟩
section
variable {ops : Array Oper} {rest : List Oper} {op : Oper} {a : Act} {w : World} {Q : Exit → Act → World → Prop}
theorem ldAL (hgd : op.guard = none) (x : Operand) (ho : op.op = .load 27 x) (b o : Nat) (hx : a.eval x = .pointer (some ⟨b, o, none⟩)) (ad : ArmsD) (hc : w.rangeAt b o (ac ad))
    (h : wpList Try.prog ops Q rest (a.put op.dst (.agg (ac ad).toArray)) w) : wpList Try.prog ops Q (op :: rest) a w :=
  wpList_load_mid hgd _ x ho b o hx (ac ad) _ hc Try.underlying27 rfl (info_acL ad) h
end
set_option maxHeartbeats 2000000 in
theorem walk (w : World) (A0 : Option Addr) (c0 : Nat) (z0 : List ArmsD) (u0 : RdR 15 w A0 (acs z0)) (l0 : z0.length ≤ maxLen) (a : ArmsD) (wa : ∀ z ∈ [a.d, a.l, a.p, a.q, a.o, a.li, a.t, a.c1, a.k1, a.a1, a.t1, a.c2, a.k2, a.a2, a.t2], (Lit.int .i64 z).wf = true) :
    Calls Try.prog 5 #[.slice A0 z0.length c0, .agg (ac a).toArray] w fun e w' => e = .returned (.bool true) ∧ Below w.heap.size w w' := by
  clear wa
  go_enter Try.func5, Try.ntmps5
  go_wp2_with fail
  refine (szArmsS_any A0 z0.length c0 1048576 _ (by omega) l0).mono ?_
  rintro e y0 ⟨rfl, hy0⟩
  have hT : Below w.heap.size w y0 := by rw [← hy0]; (repeat (first | exact Below.refl _ _ | assumption | refine Below_al ?_ _ | refine Below.drew ?_ | refine Below_then ?_ (by assumption) | refine Below.setCell ?_ (by first | omega | (simp; done) | (simp; omega)) _))
  by_cases hs : (z0.length : Int) ≤ 1048576
  · rw [if_pos hs]
    have hn : 0 ≤ (1048576 : Int) - z0.length := by omega
    have HS := Lib.hid (show z0.length ≤ 1048576 by omega)
    have hF : y0.heap[w.heap.size]? = some (.cells (ac a).toArray 27 (0, 0)) := by rw [← hy0]; exact heap_hit _ _ _ rfl
    have hR := rangeAt_blk hF
    obtain ⟨r0, r1, r2, KS, KI⟩ : ∃ (r0 r1 : Int) (r2 : Bool), (∀ (A : Option Addr) (c : Nat) (w : World), RdR 15 w A (acs z0) → Calls Try.prog 20 #[.slice A z0.length c, .agg (ac a).toArray] w fun e w' => e = .returned (.tuple #[.int .i64 r0, .int .i64 r1, .bool r2]) ∧ Below w.heap.size w w') ∧ (∀ (A : Option Addr) (c : Nat) (w : World), RdR 15 w A (acs z0) → Calls Try.prog 22 #[.slice A z0.length c, .agg (ac a).toArray] w fun e w' => e = .returned (.tuple #[.int .i64 r0, .int .i64 r1, .bool r2]) ∧ Below w.heap.size w w') := ⟨_, _, _, fun A c w h => specNearest_any A c z0 a w h HS.out, fun A c w h => implNearest_any A c z0 a w h HS.out⟩
    have KS' := Lib.hid KS
    have KI' := Lib.hid KI
    clear KS KI l0 hs hy0
    cases r2
    all_goals
      go_wp2_with fail
      refine wp_region_noPanic ?_
      refine wp_region_held_drew (S := (fun w' => w'.rangeAt w.heap.size 0 (ac a) ∧ Below y0.heap.size y0 w')) (by kernel_rfl) ⟨hR, (Below.refl _ _).drew⟩ (fun hHeld => ?_)
      refine wpAnyH_take (i := 0) (oi := _) (v := ?_) rfl (by kernel_rfl) (by kernel_rfl) (by kernel_rfl) (fun _ _ _ h => h) (Or.inl ⟨by rfl, ?_⟩) (by assumption) ?_
      rotate_left
      · intro w hSw; clear hSw; first | (go_simp; done) | (go_simp; with_reducible rfl)
      simp only [Act.put, List.getElem_toArray, List.getElem_cons_succ, List.getElem_cons_zero, List.setIfInBounds_toArray, List.set_cons_zero, List.set_cons_succ]
      refine wpAnyH_take (i := 2) (oi := _) (v := _) rfl ?g1_1 ?g2_1 ?g3_1 (fun _ _ _ h => h) (yieldsIf_load_mid ?g4_1 _ _ rfl w.heap.size ?oo_1 ?g5_1 (ac a) _ ?g6_1 Try.underlying27 rfl (info_acL a)) ?g7_1 ?_
      case g5_1 => rfl
      case g1_1 => kernel_rfl
      case g2_1 => kernel_rfl
      case g3_1 => kernel_rfl
      case g6_1 => exact (fun _ h => h.1)
      case g4_1 => kernel_rfl
      case g7_1 => assumption
      simp only [Act.put, List.getElem_toArray, List.getElem_cons_succ, List.getElem_cons_zero, List.setIfInBounds_toArray, List.set_cons_zero, List.set_cons_succ]
      refine wpAnyH_ready (rs := [1]) (by kernel_rfl) (by simp) ?_
      refine AllReadyH.cons (o := _) rfl (fun K hK => ?_) AllReadyH.nil
      go_simp
      refine (toArmsS_any A0 c0 z0 _ (u0.below (Below_then hT hHeld.2)) HS.out).mono ?_
      rintro e x1 ⟨g1, rfl, ho1, hx1⟩
      go_wp2_with fail
      refine hK.out _ _ (heldR1 hHeld hx1) (fun hHeld => ?_)
      clear hK K
      try simp only [Act.put, List.getElem_toArray, List.getElem_cons_succ, List.getElem_cons_zero, List.setIfInBounds_toArray, List.set_cons_zero, List.set_cons_succ]
      refine wpAnyH_ready (rs := [3]) (by kernel_rfl) (by simp) ?_
      refine AllReadyH.cons (o := _) rfl (fun K hK => ?_) AllReadyH.nil
      go_simp
      refine (toArmsC a _).mono ?_
      rintro e x2 ⟨rfl, hx2⟩
      go_wp2_with fail
      refine hK.out _ _ (heldR1 hHeld hx2) (fun hHeld => ?_)
      clear hK K
      try simp only [Act.put, List.getElem_toArray, List.getElem_cons_succ, List.getElem_cons_zero, List.setIfInBounds_toArray, List.set_cons_zero, List.set_cons_succ]
      refine wpAnyH_ready (rs := [4]) (by kernel_rfl) (by simp) ?_
      refine AllReadyH.cons (o := _) rfl (fun K hK => ?_) AllReadyH.nil
      go_simp
      refine (KS'.out _ _ _ (ho1.rd.below hx2)).mono ?_
      rintro e x3 ⟨rfl, hx3⟩
      go_wp2_with fail
      refine hK.out _ _ (heldR1 hHeld hx3) (fun hHeld => ?_)
      clear hK K
      try simp only [Act.put, List.getElem_toArray, List.getElem_cons_succ, List.getElem_cons_zero, List.setIfInBounds_toArray, List.set_cons_zero, List.set_cons_succ]
      refine wpAnyH_take (i := 5) (oi := _) (v := ?_) rfl (by kernel_rfl) (by kernel_rfl) (by kernel_rfl) (fun _ _ _ h => h) (Or.inl ⟨by rfl, ?_⟩) (by assumption) ?_
      rotate_left
      · intro w hSw; clear hSw; first | (go_simp; done) | (go_simp; with_reducible rfl)
      simp only [Act.put, List.getElem_toArray, List.getElem_cons_succ, List.getElem_cons_zero, List.setIfInBounds_toArray, List.set_cons_zero, List.set_cons_succ]
      refine wpAnyH_take (i := 6) (oi := _) (v := ?_) rfl (by kernel_rfl) (by kernel_rfl) (by kernel_rfl) (fun _ _ _ h => h) (Or.inl ⟨by rfl, ?_⟩) (by assumption) ?_
      rotate_left
      · intro w hSw; clear hSw; first | (go_simp; done) | (go_simp; with_reducible rfl)
      simp only [Act.put, List.getElem_toArray, List.getElem_cons_succ, List.getElem_cons_zero, List.setIfInBounds_toArray, List.set_cons_zero, List.set_cons_succ]
      refine wpAnyH_take (i := 7) (oi := _) (v := ?_) rfl (by kernel_rfl) (by kernel_rfl) (by kernel_rfl) (fun _ _ _ h => h) (Or.inl ⟨by rfl, ?_⟩) (by assumption) ?_
      rotate_left
      · intro w hSw; clear hSw; first | (go_simp; done) | (go_simp; with_reducible rfl)
      simp only [Act.put, List.getElem_toArray, List.getElem_cons_succ, List.getElem_cons_zero, List.setIfInBounds_toArray, List.set_cons_zero, List.set_cons_succ]
      refine wpAnyH_take (i := 8) (oi := _) (v := ?_) rfl (by kernel_rfl) (by kernel_rfl) (by kernel_rfl) (fun _ _ _ h => h) (Or.inl ⟨by rfl, ?_⟩) (by assumption) ?_
      rotate_left
      · intro w hSw; clear hSw; first | (go_simp; done) | (go_simp; with_reducible rfl)
      simp only [Act.put, List.getElem_toArray, List.getElem_cons_succ, List.getElem_cons_zero, List.setIfInBounds_toArray, List.set_cons_zero, List.set_cons_succ]
      refine wpAnyH_take (i := 9) (oi := _) (v := ?_) rfl (by kernel_rfl) (by kernel_rfl) (by kernel_rfl) (fun _ _ _ h => h) (Or.inl ⟨by rfl, ?_⟩) (by assumption) ?_
      rotate_left
      · intro w hSw; clear hSw; first | (go_simp; done) | (go_simp; with_reducible rfl)
      simp only [Act.put, List.getElem_toArray, List.getElem_cons_succ, List.getElem_cons_zero, List.setIfInBounds_toArray, List.set_cons_zero, List.set_cons_succ]
      refine wpAnyH_take (i := 10) (oi := _) (v := ?_) rfl (by kernel_rfl) (by kernel_rfl) (by kernel_rfl) (fun _ _ _ h => h) (Or.inl ⟨by rfl, ?_⟩) (by assumption) ?_
      rotate_left
      · intro w hSw; clear hSw; first | (go_simp; done) | (go_simp; with_reducible rfl)
      simp only [Act.put, List.getElem_toArray, List.getElem_cons_succ, List.getElem_cons_zero, List.setIfInBounds_toArray, List.set_cons_zero, List.set_cons_succ]
      refine wpAnyH_take (i := 11) (oi := _) (v := ?_) rfl (by kernel_rfl) (by kernel_rfl) (by kernel_rfl) (fun _ _ _ h => h) (Or.inl ⟨by rfl, ?_⟩) (by assumption) ?_
      rotate_left
      · intro w hSw; clear hSw; first | (go_simp; done) | (go_simp; with_reducible rfl)
      simp only [Act.put, List.getElem_toArray, List.getElem_cons_succ, List.getElem_cons_zero, List.setIfInBounds_toArray, List.set_cons_zero, List.set_cons_succ]
      refine wpAnyH_done (by kernel_rfl) ?_ _
      refine NoPanic.normal ?_

      obtain ⟨hR1, sb⟩ : _ ∧ Below y0.heap.size y0 x3 := (by assumption)
      have hT1 := Below_then hT sb
      clear ho1 hx1 hx2 hx3 sb hHeld
      go_wp2_with fail
      refine (toArmsS_any A0 c0 z0 _ (u0.below hT1) HS.out).mono ?_
      rintro e y1 ⟨g2, rfl, ho2, hy1⟩
      have hT2 := Below_then hT1 hy1
      have hR := rangeAt_below hR1 hy1
      clear hR1 hT1 hy1
      go_wp2_with (first | (refine ldAL rfl _ rfl _ _ rfl _ hR ?_) | fail)
      refine (toArmsC a _).mono ?_
      rintro e v2 ⟨rfl, hv2⟩
      go_wp2_with fail
      refine (KI'.out _ _ _ (ho2.rd.below hv2)).mono ?_
      rintro e v3 ⟨rfl, hv3⟩
      have sb := Below_then hv2 hv3
      have hT3 := Below_then hT2 sb
      have hr2 := ho2.rd.below sb
      clear ho2 hv2 hv3 sb hR hT2
      go_wp2_with fail
      refine (toArmsS_any A0 c0 z0 _ (u0.below hT3) HS.out).mono ?_
      rintro e y3 ⟨g3, rfl, ho3, hy3⟩
      have hr3 := ho3.rd
      have hr2 := hr2.below hy3
      have hT4 := Below_then hT3 hy3
      clear ho3 hy3 hT3
      go_wp2_with fail
      refine (eqArmsS_same _ _ _ _ z0 _ hr2 hr3 HS.out).mono ?_
      rintro e y4 ⟨rfl, hy4⟩
      have hT5 := Below_then hT4 hy4
      clear hr2 hr3 hy4
      go_wp2
      go_ret
      exact ⟨rfl, hT5⟩
  · rw [if_neg hs]
    go_wp2
    go_ret
    exact ⟨rfl, hT⟩

/-! ### The row's step: written by a program of mine (frame.py) after the kit's shell -/
theorem laidOut : laidOutB Try.prog = true := by kernel_rfl
set_option maxRecDepth 100000 in
theorem lifted (os : Os) (started : os.Started) (H : Type) (enc : TypeId × Value → H) :
    ReturnsInHanded {} Try.checked os 5 .any (Rows.fnExactNearestArmsSpec.pre6 enc Try.prog Try.f5 Rows.fnExactNearestArmsRow.domain false) (Rows.fnExactNearestArmsSpec.post enc Try.prog Try.f5 false true false false) := by
  refine returnsInHanded_of_change (C := Try.checked) own started (by kernel_rfl) Try.func5
    (ChangeSpec.witness6 (enc := enc) (C := Try.checked) false ⟨#[], #[.slice none 0 0, .agg #[.int .i64 0, .int .i64 0, .int .i64 0, .int .i64 0, .int .i64 0, .int .i64 0, .int .i64 0, .int .i64 0, .int .i64 0, .int .i64 0, .int .i64 0, .int .i64 0, .int .i64 0, .int .i64 0, .int .i64 0]], []⟩ 8 (by kernel_rfl) (by kernel_rfl) (by kernel_rfl) (by kernel_rfl)) ?_
  intro W base args ds gs before hval0 hW hcnd _
  have hval : ∀ (j : Nat) t v, Try.f5.params[j]? = some t → args[j]? = some v → Value.okWide Try.prog W .any base t v := hval0
  have hW' := hW
  obtain ⟨p, q, hA0, hV, rfl, hfz, hnd⟩ := hW
  have hA : DataW.TrodAll enc Try.prog W 0 (fun _ => true) true Try.f5.params.toList args.toList ds p := hA0
  rw [Try.params5] at hA hval
  obtain ⟨v0, vs0, d0, ds0, p0, q0, hargs, rfl, rfl, h0, r0⟩ := trodAll_cons hA
  obtain ⟨v1, vs1, d1, ds1, p1, q1, rfl, rfl, rfl, h1, r1⟩ := trodAll_cons r0
  obtain ⟨rfl, rfl, rfl⟩ := trodAll_nil r1
  obtain rfl : args = #[v0, v1] := by cases args; simp_all
  obtain ⟨rfl, rfl⟩ := trodVars_none hV
  have k0 := h0
  have lt0 : ∀ x ∈ p0, x.block < W.heap.size := by obtain ⟨m, hm⟩ := k0; exact DataW.trod_lt m _ _ _ hm
  obtain ⟨A0, c0, z0, rfl, u0, l0⟩ := openArmsS (hval 0 43 v0 rfl rfl) h0
  have k1 := h1
  have lt1 : ∀ x ∈ p1, x.block < W.heap.size := by obtain ⟨m, hm⟩ := k1; exact DataW.trod_lt m _ _ _ hm
  obtain ⟨a1, rfl, w1⟩ := openArms (hval 1 27 v1 rfl rfl) h1
  clear hA0 hval0
  refine (walk W A0 c0 z0 u0 l0 a1 w1).mono fun e W' ⟨he, bel⟩ => ?_
  subst he
  exact ⟨_, rfl, _, _, _, [], _, [], hW', trodAll_mk1 (shut_bool Try.underlying4 _), (trodAll_cons_mk (Below.trod laidOut (by kernel_rfl) (of_decide_eq_true (by kernel_rfl)) k0 bel lt0) (trodAll_cons_mk (Below.trod laidOut (by kernel_rfl) (of_decide_eq_true (by kernel_rfl)) k1 bel lt1) trodAll_mk0)), rfl, bel.frame _, fun h => by cases h⟩

theorem over : Rows.fnExactNearestArmsRow.holds Try.pinned (OpenSpec.ofChange Rows.fnExactNearestArmsSpec) :=
  OpenClaim.holds_of_wide 5 Try.f5 rfl rfl rfl rfl rfl rfl rfl ⟨rfl, rfl, rfl, rfl, rfl⟩ rfl rfl rfl rfl rfl (by kernel_rfl) Try.func5 (by kernel_rfl)
    (of_decide_eq_true (by kernel_rfl)) (by unfold Func.isWrapper; first | (rw [if_pos (by decide +kernel)]; kernel_rfl) | (rw [if_neg (by decide +kernel)]; exact ⟨rfl, rfl⟩))
    (fun os started H enc _ => lifted os started H enc)

theorem proved : Rows.FnExactNearestArmsSaid := over
#print axioms proved

end Go.Proofs.Ytpboheaiigbfbaa.fnExactNearestArms
