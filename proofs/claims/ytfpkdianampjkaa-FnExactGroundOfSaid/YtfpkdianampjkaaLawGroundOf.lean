/- FnExactGroundOf: for all arguments GroundOf of the program returns what GroundOf of the reference returns. No condition. -/
import Derived.Test.YtfpkdianampjkaaRows
import Derived.Test.YtfpkdianampjkaaArmReg2
import Derived.Test.YtfpkdianampjkaaToArms
import Derived.Test.YtfpkdianampjkaaAOpen
namespace Go.Proofs.Ytfpkdianampjkaa.fnExactGroundOf
open Go.ChangeShapes Go.WideShapes Go.ChangeAt Go.RowKit
set_option linter.unusedVariables false

theorem key (a : ArmsD) : ∃ (zs : List Int) (ok : Bool), (∀ w, Calls Try.prog 32 #[.agg #[.int .i64 a.d, .int .i64 a.l, .int .i64 a.p, .int .i64 a.q, .int .i64 a.o, .int .i64 a.li, .int .i64 a.t, .int .i64 a.c1, .int .i64 a.k1, .int .i64 a.a1, .int .i64 a.t1, .int .i64 a.c2, .int .i64 a.k2, .int .i64 a.a2, .int .i64 a.t2]] w (RegOk w zs ok)) ∧ (∀ w, Calls Try.prog 33 #[.agg #[.int .i64 a.d, .int .i64 a.l, .int .i64 a.p, .int .i64 a.q, .int .i64 a.o, .int .i64 a.li, .int .i64 a.t, .int .i64 a.c1, .int .i64 a.k1, .int .i64 a.a1, .int .i64 a.t1, .int .i64 a.c2, .int .i64 a.k2, .int .i64 a.a2, .int .i64 a.t2]] w (RegOk w zs ok)) ∧ zs.length ≤ 1000 := by
  cases ga : armsOk a
  · exact ⟨_, _, fun w => specGroundOf_no a w ga, fun w => GroundOf_no a w ga, by simp⟩
  · exact ⟨_, _, fun w => specGroundOf_yes a w ga, fun w => GroundOf_yes a w ga, by simp [regRows_len]⟩
set_option maxHeartbeats 4000000 in
theorem walk (a0 : ArmsD) (w0 : ∀ z ∈ [a0.d, a0.l, a0.p, a0.q, a0.o, a0.li, a0.t, a0.c1, a0.k1, a0.a1, a0.t1, a0.c2, a0.k2, a0.a2, a0.t2], (Lit.int .i64 z).wf = true) (w : World) :
    Calls Try.prog 8 #[.agg #[.int .i64 a0.d, .int .i64 a0.l, .int .i64 a0.p, .int .i64 a0.q, .int .i64 a0.o, .int .i64 a0.li, .int .i64 a0.t, .int .i64 a0.c1, .int .i64 a0.k1, .int .i64 a0.a1, .int .i64 a0.t1, .int .i64 a0.c2, .int .i64 a0.k2, .int .i64 a0.a2, .int .i64 a0.t2]] w fun e w' => e = .returned (.bool true) ∧ Below w.heap.size w w' := by
  obtain ⟨zs, ok, HS, HI, hlen⟩ := key a0
  have HS' := Lib.hid HS
  have HI' := Lib.hid HI
  clear HS HI
  go_enter Try.func8, Try.ntmps8
  have hT := Below.refl w.heap.size w
  replace hT := Below_al hT (.cells #[.int .i64 a0.d, .int .i64 a0.l, .int .i64 a0.p, .int .i64 a0.q, .int .i64 a0.o, .int .i64 a0.li, .int .i64 a0.t, .int .i64 a0.c1, .int .i64 a0.k1, .int .i64 a0.a1, .int .i64 a0.t1, .int .i64 a0.c2, .int .i64 a0.k2, .int .i64 a0.a2, .int .i64 a0.t2] 27 (0, 0))
  have hF : (w.alloc (.cells #[.int .i64 a0.d, .int .i64 a0.l, .int .i64 a0.p, .int .i64 a0.q, .int .i64 a0.o, .int .i64 a0.li, .int .i64 a0.t, .int .i64 a0.c1, .int .i64 a0.k1, .int .i64 a0.a1, .int .i64 a0.t1, .int .i64 a0.c2, .int .i64 a0.k2, .int .i64 a0.a2, .int .i64 a0.t2] 27 (0, 0))).heap[w.heap.size]? = some (.cells #[.int .i64 a0.d, .int .i64 a0.l, .int .i64 a0.p, .int .i64 a0.q, .int .i64 a0.o, .int .i64 a0.li, .int .i64 a0.t, .int .i64 a0.c1, .int .i64 a0.k1, .int .i64 a0.a1, .int .i64 a0.t1, .int .i64 a0.c2, .int .i64 a0.k2, .int .i64 a0.a2, .int .i64 a0.t2] 27 (0, 0)) := heap_hit _ _ _ rfl
  have k_hF_0 : _ = some (.int .i64 a0.d : Value) := cell_of hF 0
  have k_hF_1 : _ = some (.int .i64 a0.l : Value) := cell_of hF 1
  have k_hF_2 : _ = some (.int .i64 a0.p : Value) := cell_of hF 2
  have k_hF_3 : _ = some (.int .i64 a0.q : Value) := cell_of hF 3
  have k_hF_4 : _ = some (.int .i64 a0.o : Value) := cell_of hF 4
  have k_hF_5 : _ = some (.int .i64 a0.li : Value) := cell_of hF 5
  have k_hF_6 : _ = some (.int .i64 a0.t : Value) := cell_of hF 6
  have k_hF_7 : _ = some (.int .i64 a0.c1 : Value) := cell_of hF 7
  have k_hF_8 : _ = some (.int .i64 a0.k1 : Value) := cell_of hF 8
  have k_hF_9 : _ = some (.int .i64 a0.a1 : Value) := cell_of hF 9
  have k_hF_10 : _ = some (.int .i64 a0.t1 : Value) := cell_of hF 10
  have k_hF_11 : _ = some (.int .i64 a0.c2 : Value) := cell_of hF 11
  have k_hF_12 : _ = some (.int .i64 a0.k2 : Value) := cell_of hF 12
  have k_hF_13 : _ = some (.int .i64 a0.a2 : Value) := cell_of hF 13
  have k_hF_14 : _ = some (.int .i64 a0.t2 : Value) := cell_of hF 14
  go_wp2_with fail
  clear k_hF_0 k_hF_1 k_hF_2 k_hF_3 k_hF_4 k_hF_5 k_hF_6 k_hF_7 k_hF_8 k_hF_9 k_hF_10 k_hF_11 k_hF_12 k_hF_13 k_hF_14
  refine (toArms_any a0 _).mono ?_
  rintro e y1 ⟨rfl, hy1⟩
  replace hT := Below_then hT hy1
  replace hF := heap_keepB hF hy1
  go_wp2_with fail
  refine (HS'.out _).mono ?_
  rintro e w1 ⟨v1, rfl, ho1, hb1⟩
  replace hT := Below_then hT hb1
  replace hF := heap_keepB hF hb1
  obtain ⟨A1, c1, rfl, -⟩ := ho1.form
  replace hT := Below_al hT (.cells #[.slice A1 zs.length c1] 48 (0, 0))
  replace hF := heap_keepA hF (.cells #[.slice A1 zs.length c1] 48 (0, 0))
  replace ho1 := ho1.alloc (.cells #[.slice A1 zs.length c1] 48 (0, 0))
  have hB1 : (w1.alloc (.cells #[.slice A1 zs.length c1] 48 (0, 0))).heap[w1.heap.size]? = some (.cells #[.slice A1 zs.length c1] 48 (0, 0)) := heap_hit _ _ _ rfl
  have k_hF_0 : _ = some (.int .i64 a0.d : Value) := cell_of hF 0
  have k_hF_1 : _ = some (.int .i64 a0.l : Value) := cell_of hF 1
  have k_hF_2 : _ = some (.int .i64 a0.p : Value) := cell_of hF 2
  have k_hF_3 : _ = some (.int .i64 a0.q : Value) := cell_of hF 3
  have k_hF_4 : _ = some (.int .i64 a0.o : Value) := cell_of hF 4
  have k_hF_5 : _ = some (.int .i64 a0.li : Value) := cell_of hF 5
  have k_hF_6 : _ = some (.int .i64 a0.t : Value) := cell_of hF 6
  have k_hF_7 : _ = some (.int .i64 a0.c1 : Value) := cell_of hF 7
  have k_hF_8 : _ = some (.int .i64 a0.k1 : Value) := cell_of hF 8
  have k_hF_9 : _ = some (.int .i64 a0.a1 : Value) := cell_of hF 9
  have k_hF_10 : _ = some (.int .i64 a0.t1 : Value) := cell_of hF 10
  have k_hF_11 : _ = some (.int .i64 a0.c2 : Value) := cell_of hF 11
  have k_hF_12 : _ = some (.int .i64 a0.k2 : Value) := cell_of hF 12
  have k_hF_13 : _ = some (.int .i64 a0.a2 : Value) := cell_of hF 13
  have k_hF_14 : _ = some (.int .i64 a0.t2 : Value) := cell_of hF 14
  go_wp2_with fail
  clear k_hF_0 k_hF_1 k_hF_2 k_hF_3 k_hF_4 k_hF_5 k_hF_6 k_hF_7 k_hF_8 k_hF_9 k_hF_10 k_hF_11 k_hF_12 k_hF_13 k_hF_14
  refine (toArms_any a0 _).mono ?_
  rintro e y2 ⟨rfl, hy2⟩
  replace hT := Below_then hT hy2
  replace hF := heap_keepB hF hy2
  replace ho1 := ho1.below hy2
  replace hB1 := heap_keepB hB1 hy2
  go_wp2_with fail
  have hlt1 := heap_lt hB1
  have hltF := heap_lt hF
  have hbs := hT.size
  refine (HI'.out _).mono ?_
  rintro e w2 ⟨v2, rfl, ho2, hb2⟩
  have hap := ho1.apart ho2 (Nat.le_refl _)
  have hne1 := ownBlock_ne (b := w1.heap.size) ho2 (.inl hlt1)
  have hneF := ownBlock_ne (b := w.heap.size) ho2 (.inl hltF)
  have hne2 := ownBlock_ne (b := w2.heap.size) ho2 (.inr (Nat.le_refl _))
  have htop : ∀ k, v2.ownBlock = some k → w.heap.size ≤ k := fun k hk => Nat.le_trans hbs (World.ownsRow.lt ho2 k hk).1
  replace hT := Below_then hT hb2
  replace hF := heap_keepB hF hb2
  replace ho1 := ho1.below hb2
  replace hB1 := heap_keepB hB1 hb2
  obtain ⟨A2, c2, rfl, -⟩ := ho2.form
  replace hT := Below_al hT (.cells #[.slice A2 zs.length c2] 48 (0, 0))
  replace hF := heap_keepA hF (.cells #[.slice A2 zs.length c2] 48 (0, 0))
  replace ho1 := ho1.alloc (.cells #[.slice A2 zs.length c2] 48 (0, 0))
  replace hB1 := heap_keepA hB1 (.cells #[.slice A2 zs.length c2] 48 (0, 0))
  replace ho2 := ho2.alloc (.cells #[.slice A2 zs.length c2] 48 (0, 0))
  have hB2 : (w2.alloc (.cells #[.slice A2 zs.length c2] 48 (0, 0))).heap[w2.heap.size]? = some (.cells #[.slice A2 zs.length c2] 48 (0, 0)) := heap_hit _ _ _ rfl
  have HAP := Lib.hid hap
  have HNE1 := Lib.hid hne1
  have HNE2 := Lib.hid hne2
  have HTOP := Lib.hid htop
  have HNEF := Lib.hid hneF
  clear hlt1 hbs hap hne1 hne2 htop hltF hneF
  have k_hB1_0 : _ = some (.slice A1 zs.length c1 : Value) := cell_of hB1 0
  have k_hB2_0 : _ = some (.slice A2 zs.length c2 : Value) := cell_of hB2 0
  go_wp2_with fail
  clear k_hB1_0 k_hB2_0
  refine (eqRegion_same zs _ ho2 ho1 (by omega)).mono ?_
  rintro e w3 ⟨rfl, hb3⟩
  replace hT := Below_then hT hb3
  replace hF := heap_keepB hF hb3
  replace ho1 := ho1.below hb3
  replace hB1 := heap_keepB hB1 hb3
  replace ho2 := ho2.below hb3
  replace hB2 := heap_keepB hB2 hb3
  have k_hB1_0 : _ = some (.slice A1 zs.length c1 : Value) := cell_of hB1 0
  have k_hB2_0 : _ = some (.slice A2 zs.length c2 : Value) := cell_of hB2 0
  go_wp2_with fail
  clear k_hB1_0 k_hB2_0
  refine (markRegion_any _ _ zs 1 _ ho2 (by omega) (by omega) (by omega)).mono ?_
  rintro e w4 ⟨rfl, hm, hg⟩
  replace hT := hT.grown hg hT.size HTOP.out
  replace hF := heap_keepG hF hg HNEF.out
  replace ho1 := ho1.other hg HAP.out
  replace hB1 := heap_keepG hB1 hg HNE1.out
  replace hB2 := heap_keepG hB2 hg HNE2.out
  replace ho2 := hm
  clear hm
  have k_hB2_0 : _ = some (.slice A2 zs.length c2 : Value) := cell_of hB2 0
  go_wp2_with fail
  clear k_hB2_0
  refine (heldRegion_marks zs.length 1 _ ho2 (by omega) (by omega) (by omega)).mono ?_
  rintro e w5 ⟨rfl, hb5⟩
  replace hT := Below_then hT hb5
  replace hF := heap_keepB hF hb5
  replace ho1 := ho1.below hb5
  replace hB1 := heap_keepB hB1 hb5
  replace ho2 := ho2.below hb5
  replace hB2 := heap_keepB hB2 hb5
  have k_hF_0 : _ = some (.int .i64 a0.d : Value) := cell_of hF 0
  have k_hF_1 : _ = some (.int .i64 a0.l : Value) := cell_of hF 1
  have k_hF_2 : _ = some (.int .i64 a0.p : Value) := cell_of hF 2
  have k_hF_3 : _ = some (.int .i64 a0.q : Value) := cell_of hF 3
  have k_hF_4 : _ = some (.int .i64 a0.o : Value) := cell_of hF 4
  have k_hF_5 : _ = some (.int .i64 a0.li : Value) := cell_of hF 5
  have k_hF_6 : _ = some (.int .i64 a0.t : Value) := cell_of hF 6
  have k_hF_7 : _ = some (.int .i64 a0.c1 : Value) := cell_of hF 7
  have k_hF_8 : _ = some (.int .i64 a0.k1 : Value) := cell_of hF 8
  have k_hF_9 : _ = some (.int .i64 a0.a1 : Value) := cell_of hF 9
  have k_hF_10 : _ = some (.int .i64 a0.t1 : Value) := cell_of hF 10
  have k_hF_11 : _ = some (.int .i64 a0.c2 : Value) := cell_of hF 11
  have k_hF_12 : _ = some (.int .i64 a0.k2 : Value) := cell_of hF 12
  have k_hF_13 : _ = some (.int .i64 a0.a2 : Value) := cell_of hF 13
  have k_hF_14 : _ = some (.int .i64 a0.t2 : Value) := cell_of hF 14
  go_wp2_with fail
  clear k_hF_0 k_hF_1 k_hF_2 k_hF_3 k_hF_4 k_hF_5 k_hF_6 k_hF_7 k_hF_8 k_hF_9 k_hF_10 k_hF_11 k_hF_12 k_hF_13 k_hF_14
  refine (toArms_any a0 _).mono ?_
  rintro e y3 ⟨rfl, hy3⟩
  replace hT := Below_then hT hy3
  replace hF := heap_keepB hF hy3
  replace ho1 := ho1.below hy3
  replace hB1 := heap_keepB hB1 hy3
  replace ho2 := ho2.below hy3
  replace hB2 := heap_keepB hB2 hy3
  go_wp2_with fail
  refine (HI'.out _).mono ?_
  rintro e w6 ⟨v3, rfl, ho3, hb6⟩
  replace hT := Below_then hT hb6
  replace hF := heap_keepB hF hb6
  replace ho1 := ho1.below hb6
  replace hB1 := heap_keepB hB1 hb6
  replace ho2 := ho2.below hb6
  replace hB2 := heap_keepB hB2 hb6
  obtain ⟨A3, c3, rfl, -⟩ := ho3.form
  replace hT := Below_al hT (.cells #[.slice A3 zs.length c3] 48 (0, 0))
  replace hF := heap_keepA hF (.cells #[.slice A3 zs.length c3] 48 (0, 0))
  replace ho1 := ho1.alloc (.cells #[.slice A3 zs.length c3] 48 (0, 0))
  replace hB1 := heap_keepA hB1 (.cells #[.slice A3 zs.length c3] 48 (0, 0))
  replace ho2 := ho2.alloc (.cells #[.slice A3 zs.length c3] 48 (0, 0))
  replace hB2 := heap_keepA hB2 (.cells #[.slice A3 zs.length c3] 48 (0, 0))
  replace ho3 := ho3.alloc (.cells #[.slice A3 zs.length c3] 48 (0, 0))
  have k_hB1_0 : _ = some (.slice A1 zs.length c1 : Value) := cell_of hB1 0
  have k_hB2_0 : _ = some (.slice A2 zs.length c2 : Value) := cell_of hB2 0
  go_wp2_with fail
  clear k_hB1_0 k_hB2_0
  refine (eqRegion_same zs _ ho3 ho1 (by omega)).mono ?_
  rintro e w7 ⟨rfl, hb7⟩
  replace hT := Below_then hT hb7
  replace hF := heap_keepB hF hb7
  replace ho1 := ho1.below hb7
  replace hB1 := heap_keepB hB1 hb7
  replace ho2 := ho2.below hb7
  replace hB2 := heap_keepB hB2 hb7
  replace ho3 := ho3.below hb7
  have k_hB2_0 : _ = some (.slice A2 zs.length c2 : Value) := cell_of hB2 0
  go_wp2_with fail
  clear k_hB2_0
  refine (heldRegion_marks zs.length 1 _ ho2 (by omega) (by omega) (by omega)).mono ?_
  rintro e w8 ⟨rfl, hb8⟩
  replace hT := Below_then hT hb8
  replace hF := heap_keepB hF hb8
  replace ho1 := ho1.below hb8
  replace hB1 := heap_keepB hB1 hb8
  replace ho2 := ho2.below hb8
  replace hB2 := heap_keepB hB2 hb8
  replace ho3 := ho3.below hb8
  go_wp2
  go_ret
  exact ⟨rfl, hT⟩

/-! ### The row's step: written by a program of mine (frame.py) after the kit's shell -/
theorem laidOut : laidOutB Try.prog = true := by kernel_rfl
set_option maxRecDepth 100000 in
theorem lifted (os : Os) (started : os.Started) (H : Type) (enc : TypeId × Value → H) :
    ReturnsInHanded {} Try.checked os 8 .any (Rows.fnExactGroundOfSpec.pre6 enc Try.prog Try.f8 Rows.fnExactGroundOfRow.domain false) (Rows.fnExactGroundOfSpec.post enc Try.prog Try.f8 false true false false) := by
  refine returnsInHanded_of_change (C := Try.checked) own started (by kernel_rfl) Try.func8
    (ChangeSpec.witness6 (enc := enc) (C := Try.checked) false ⟨#[], #[.agg #[.int .i64 0, .int .i64 0, .int .i64 0, .int .i64 0, .int .i64 0, .int .i64 0, .int .i64 0, .int .i64 0, .int .i64 0, .int .i64 0, .int .i64 0, .int .i64 0, .int .i64 0, .int .i64 0, .int .i64 0]], []⟩ 8 (by kernel_rfl) (by kernel_rfl) (by kernel_rfl) (by kernel_rfl)) ?_
  intro W base args ds gs before hval0 hW hcnd _
  have hval : ∀ (j : Nat) t v, Try.f8.params[j]? = some t → args[j]? = some v → Value.okWide Try.prog W .any base t v := hval0
  have hW' := hW
  obtain ⟨p, q, hA0, hV, rfl, hfz, hnd⟩ := hW
  have hA : DataW.TrodAll enc Try.prog W 0 (fun _ => true) true Try.f8.params.toList args.toList ds p := hA0
  rw [Try.params8] at hA hval
  obtain ⟨v0, vs0, d0, ds0, p0, q0, hargs, rfl, rfl, h0, r0⟩ := trodAll_cons hA
  obtain ⟨rfl, rfl, rfl⟩ := trodAll_nil r0
  obtain rfl : args = #[v0] := by cases args; simp_all
  obtain ⟨rfl, rfl⟩ := trodVars_none hV
  have k0 := h0
  have lt0 : ∀ x ∈ p0, x.block < W.heap.size := by obtain ⟨m, hm⟩ := k0; exact DataW.trod_lt m _ _ _ hm
  obtain ⟨a0, rfl, w0⟩ := openArms (hval 0 27 v0 rfl rfl) h0
  clear hA0 hval0
  refine (walk a0 w0 W).mono fun e W' ⟨he, bel⟩ => ?_
  subst he
  exact ⟨_, rfl, _, _, _, [], _, [], hW', trodAll_mk1 (shut_bool Try.underlying4 _), (trodAll_cons_mk (Below.trod laidOut (by kernel_rfl) (of_decide_eq_true (by kernel_rfl)) k0 bel lt0) trodAll_mk0), rfl, bel.frame _, fun h => by cases h⟩

theorem over : Rows.fnExactGroundOfRow.holds Try.pinned (OpenSpec.ofChange Rows.fnExactGroundOfSpec) :=
  OpenClaim.holds_of_wide 8 Try.f8 rfl rfl rfl rfl rfl rfl rfl ⟨rfl, rfl, rfl, rfl, rfl⟩ rfl rfl rfl rfl rfl (by kernel_rfl) Try.func8 (by kernel_rfl)
    (of_decide_eq_true (by kernel_rfl)) (by unfold Func.isWrapper; first | (rw [if_pos (by decide +kernel)]; kernel_rfl) | (rw [if_neg (by decide +kernel)]; exact ⟨rfl, rfl⟩))
    (fun os started H enc _ => lifted os started H enc)

theorem proved : Rows.FnExactGroundOfSaid := over
#print axioms proved

end Go.Proofs.Ytfpkdianampjkaa.fnExactGroundOf
