/- FnExactSwungCells: for all arguments SwungCells of the program returns what SwungCells of the reference returns. No condition. -/
import Derived.Test.YtljeephifdopfaaRows
import Derived.Test.YtljeephifdopfaaRegion5
import Derived.Test.YtljeephifdopfaaOpen
namespace Go.Proofs.Ytljeephifdopfaa.fnExactSwungCells
open Go.ChangeShapes Go.WideShapes Go.ChangeAt Go.RowKit
set_option linter.unusedVariables false

theorem key (d l p q : Int) : ∃ (zs : List Int) (ok : Bool), (∀ w, Calls Try.prog 22 #[.agg #[.int .i64 d, .int .i64 l, .int .i64 p, .int .i64 q]] w (RegOk w zs ok)) ∧ (∀ w, Calls Try.prog 23 #[.agg #[.int .i64 d, .int .i64 l, .int .i64 p, .int .i64 q]] w (RegOk w zs ok)) ∧ zs.length ≤ 1000 := by
  by_cases h : fieldOk d l p q = true
  · exact ⟨_, _, fun w => specSwungCells_yes d l p q w h, fun w => SwungCells_yes d l p q w h, by simp [regRows_len]⟩
  · exact ⟨_, _, fun w => specSwungCells_no d l p q w (by simpa using h), fun w => SwungCells_no d l p q w (by simpa using h), by simp⟩
set_option maxHeartbeats 4000000 in
theorem walk (a00 : Int) (a01 : Int) (a02 : Int) (a03 : Int) (w00 : (Lit.int .i64 a00).wf = true) (w01 : (Lit.int .i64 a01).wf = true) (w02 : (Lit.int .i64 a02).wf = true) (w03 : (Lit.int .i64 a03).wf = true) (w : World) :
    Calls Try.prog 6 #[.agg #[.int .i64 a00, .int .i64 a01, .int .i64 a02, .int .i64 a03]] w fun e w' => e = .returned (.bool true) ∧ Below w.heap.size w w' := by
  obtain ⟨zs, ok, HS, HI, hlen⟩ := key a00 a01 a02 a03
  have HS' := Lib.hid HS
  have HI' := Lib.hid HI
  clear HS HI
  go_enter Try.func6, Try.ntmps6
  have hT := Below.refl w.heap.size w
  replace hT := Below_al hT (.cells #[.int .i64 a00, .int .i64 a01, .int .i64 a02, .int .i64 a03] 23 (0, 0))
  have hF : (w.alloc (.cells #[.int .i64 a00, .int .i64 a01, .int .i64 a02, .int .i64 a03] 23 (0, 0))).heap[w.heap.size]? = some (.cells #[.int .i64 a00, .int .i64 a01, .int .i64 a02, .int .i64 a03] 23 (0, 0)) := heap_hit _ _ _ rfl
  have k_hF_0 : _ = some (.int .i64 a00 : Value) := cell_of hF 0
  have k_hF_1 : _ = some (.int .i64 a01 : Value) := cell_of hF 1
  have k_hF_2 : _ = some (.int .i64 a02 : Value) := cell_of hF 2
  have k_hF_3 : _ = some (.int .i64 a03 : Value) := cell_of hF 3
  go_wp2_with fail
  clear k_hF_0 k_hF_1 k_hF_2 k_hF_3
  refine (toField_any _ _ _ _ _).mono ?_
  rintro e y1 ⟨rfl, hy1⟩
  replace hT := Below_then hT hy1
  replace hF := heap_keepB hF hy1
  go_wp2_with fail
  refine (HS'.out _).mono ?_
  rintro e w1 ⟨v1, rfl, ho1, hb1⟩
  replace hT := Below_then hT hb1
  replace hF := heap_keepB hF hb1
  obtain ⟨A1, c1, rfl, -⟩ := ho1.form
  replace hT := Below_al hT (.cells #[.slice A1 zs.length c1] 31 (0, 0))
  replace hF := heap_keepA hF (.cells #[.slice A1 zs.length c1] 31 (0, 0))
  replace ho1 := ho1.alloc (.cells #[.slice A1 zs.length c1] 31 (0, 0))
  have hB1 : (w1.alloc (.cells #[.slice A1 zs.length c1] 31 (0, 0))).heap[w1.heap.size]? = some (.cells #[.slice A1 zs.length c1] 31 (0, 0)) := heap_hit _ _ _ rfl
  have k_hF_0 : _ = some (.int .i64 a00 : Value) := cell_of hF 0
  have k_hF_1 : _ = some (.int .i64 a01 : Value) := cell_of hF 1
  have k_hF_2 : _ = some (.int .i64 a02 : Value) := cell_of hF 2
  have k_hF_3 : _ = some (.int .i64 a03 : Value) := cell_of hF 3
  go_wp2_with fail
  clear k_hF_0 k_hF_1 k_hF_2 k_hF_3
  refine (toField_any _ _ _ _ _).mono ?_
  rintro e y2 ⟨rfl, hy2⟩
  replace hT := Below_then hT hy2
  replace hF := heap_keepB hF hy2
  replace ho1 := ho1.below hy2
  replace hB1 := heap_keepB hB1 hy2
  go_wp2_with fail
  have hlt1 := heap_lt hB1
  have hltF := heap_lt hF
  have hbs := hT.size
  refine (HI'.out _).mono ?_
  rintro e w2 ⟨v2, rfl, ho2, hb2⟩
  have hap := ho1.apart ho2 (Nat.le_refl _)
  have hne1 := ownBlock_ne (b := w1.heap.size) ho2 (.inl hlt1)
  have hneF := ownBlock_ne (b := w.heap.size) ho2 (.inl hltF)
  have hne2 := ownBlock_ne (b := w2.heap.size) ho2 (.inr (Nat.le_refl _))
  have htop : ∀ k, v2.ownBlock = some k → w.heap.size ≤ k := fun k hk => Nat.le_trans hbs (World.ownsRow.lt ho2 k hk).1
  replace hT := Below_then hT hb2
  replace hF := heap_keepB hF hb2
  replace ho1 := ho1.below hb2
  replace hB1 := heap_keepB hB1 hb2
  obtain ⟨A2, c2, rfl, -⟩ := ho2.form
  replace hT := Below_al hT (.cells #[.slice A2 zs.length c2] 31 (0, 0))
  replace hF := heap_keepA hF (.cells #[.slice A2 zs.length c2] 31 (0, 0))
  replace ho1 := ho1.alloc (.cells #[.slice A2 zs.length c2] 31 (0, 0))
  replace hB1 := heap_keepA hB1 (.cells #[.slice A2 zs.length c2] 31 (0, 0))
  replace ho2 := ho2.alloc (.cells #[.slice A2 zs.length c2] 31 (0, 0))
  have hB2 : (w2.alloc (.cells #[.slice A2 zs.length c2] 31 (0, 0))).heap[w2.heap.size]? = some (.cells #[.slice A2 zs.length c2] 31 (0, 0)) := heap_hit _ _ _ rfl
  have HAP := Lib.hid hap
  have HNE1 := Lib.hid hne1
  have HNE2 := Lib.hid hne2
  have HTOP := Lib.hid htop
  have HNEF := Lib.hid hneF
  clear hlt1 hbs hap hne1 hne2 htop hltF hneF
  have k_hB1_0 : _ = some (.slice A1 zs.length c1 : Value) := cell_of hB1 0
  have k_hB2_0 : _ = some (.slice A2 zs.length c2 : Value) := cell_of hB2 0
  go_wp2_with fail
  clear k_hB1_0 k_hB2_0
  refine (eqRegion_same zs _ ho2 ho1 (by omega)).mono ?_
  rintro e w3 ⟨rfl, hb3⟩
  replace hT := Below_then hT hb3
  replace hF := heap_keepB hF hb3
  replace ho1 := ho1.below hb3
  replace hB1 := heap_keepB hB1 hb3
  replace ho2 := ho2.below hb3
  replace hB2 := heap_keepB hB2 hb3
  have k_hB1_0 : _ = some (.slice A1 zs.length c1 : Value) := cell_of hB1 0
  have k_hB2_0 : _ = some (.slice A2 zs.length c2 : Value) := cell_of hB2 0
  go_wp2_with fail
  clear k_hB1_0 k_hB2_0
  refine (markRegion_any _ _ zs 1 _ ho2 (by omega) (by omega) (by omega)).mono ?_
  rintro e w4 ⟨rfl, hm, hg⟩
  replace hT := hT.grown hg hT.size HTOP.out
  replace hF := heap_keepG hF hg HNEF.out
  replace ho1 := ho1.other hg HAP.out
  replace hB1 := heap_keepG hB1 hg HNE1.out
  replace hB2 := heap_keepG hB2 hg HNE2.out
  replace ho2 := hm
  clear hm
  have k_hB2_0 : _ = some (.slice A2 zs.length c2 : Value) := cell_of hB2 0
  go_wp2_with fail
  clear k_hB2_0
  refine (heldRegion_marks zs.length 1 _ ho2 (by omega) (by omega) (by omega)).mono ?_
  rintro e w5 ⟨rfl, hb5⟩
  replace hT := Below_then hT hb5
  replace hF := heap_keepB hF hb5
  replace ho1 := ho1.below hb5
  replace hB1 := heap_keepB hB1 hb5
  replace ho2 := ho2.below hb5
  replace hB2 := heap_keepB hB2 hb5
  have k_hF_0 : _ = some (.int .i64 a00 : Value) := cell_of hF 0
  have k_hF_1 : _ = some (.int .i64 a01 : Value) := cell_of hF 1
  have k_hF_2 : _ = some (.int .i64 a02 : Value) := cell_of hF 2
  have k_hF_3 : _ = some (.int .i64 a03 : Value) := cell_of hF 3
  go_wp2_with fail
  clear k_hF_0 k_hF_1 k_hF_2 k_hF_3
  refine (toField_any _ _ _ _ _).mono ?_
  rintro e y3 ⟨rfl, hy3⟩
  replace hT := Below_then hT hy3
  replace hF := heap_keepB hF hy3
  replace ho1 := ho1.below hy3
  replace hB1 := heap_keepB hB1 hy3
  replace ho2 := ho2.below hy3
  replace hB2 := heap_keepB hB2 hy3
  go_wp2_with fail
  refine (HI'.out _).mono ?_
  rintro e w6 ⟨v3, rfl, ho3, hb6⟩
  replace hT := Below_then hT hb6
  replace hF := heap_keepB hF hb6
  replace ho1 := ho1.below hb6
  replace hB1 := heap_keepB hB1 hb6
  replace ho2 := ho2.below hb6
  replace hB2 := heap_keepB hB2 hb6
  obtain ⟨A3, c3, rfl, -⟩ := ho3.form
  replace hT := Below_al hT (.cells #[.slice A3 zs.length c3] 31 (0, 0))
  replace hF := heap_keepA hF (.cells #[.slice A3 zs.length c3] 31 (0, 0))
  replace ho1 := ho1.alloc (.cells #[.slice A3 zs.length c3] 31 (0, 0))
  replace hB1 := heap_keepA hB1 (.cells #[.slice A3 zs.length c3] 31 (0, 0))
  replace ho2 := ho2.alloc (.cells #[.slice A3 zs.length c3] 31 (0, 0))
  replace hB2 := heap_keepA hB2 (.cells #[.slice A3 zs.length c3] 31 (0, 0))
  replace ho3 := ho3.alloc (.cells #[.slice A3 zs.length c3] 31 (0, 0))
  have k_hB1_0 : _ = some (.slice A1 zs.length c1 : Value) := cell_of hB1 0
  have k_hB2_0 : _ = some (.slice A2 zs.length c2 : Value) := cell_of hB2 0
  go_wp2_with fail
  clear k_hB1_0 k_hB2_0
  refine (eqRegion_same zs _ ho3 ho1 (by omega)).mono ?_
  rintro e w7 ⟨rfl, hb7⟩
  replace hT := Below_then hT hb7
  replace hF := heap_keepB hF hb7
  replace ho1 := ho1.below hb7
  replace hB1 := heap_keepB hB1 hb7
  replace ho2 := ho2.below hb7
  replace hB2 := heap_keepB hB2 hb7
  replace ho3 := ho3.below hb7
  have k_hB2_0 : _ = some (.slice A2 zs.length c2 : Value) := cell_of hB2 0
  go_wp2_with fail
  clear k_hB2_0
  refine (heldRegion_marks zs.length 1 _ ho2 (by omega) (by omega) (by omega)).mono ?_
  rintro e w8 ⟨rfl, hb8⟩
  replace hT := Below_then hT hb8
  replace hF := heap_keepB hF hb8
  replace ho1 := ho1.below hb8
  replace hB1 := heap_keepB hB1 hb8
  replace ho2 := ho2.below hb8
  replace hB2 := heap_keepB hB2 hb8
  replace ho3 := ho3.below hb8
  go_wp2
  go_ret
  exact ⟨rfl, hT⟩

/-! ### The row's step: written by a program of mine (frame.py) after the kit's shell -/
theorem laidOut : laidOutB Try.prog = true := by kernel_rfl
set_option maxRecDepth 100000 in
theorem lifted (os : Os) (started : os.Started) (H : Type) (enc : TypeId × Value → H) :
    ReturnsInHanded {} Try.checked os 6 .any (Rows.fnExactSwungCellsSpec.pre6 enc Try.prog Try.f6 Rows.fnExactSwungCellsRow.domain false) (Rows.fnExactSwungCellsSpec.post enc Try.prog Try.f6 false true false false) := by
  refine returnsInHanded_of_change (C := Try.checked) own started (by kernel_rfl) Try.func6
    (ChangeSpec.witness6 (enc := enc) (C := Try.checked) false ⟨#[], #[.agg #[.int .i64 0, .int .i64 0, .int .i64 0, .int .i64 0]], []⟩ 8 (by kernel_rfl) (by kernel_rfl) (by kernel_rfl) (by kernel_rfl)) ?_
  intro W base args ds gs before hval0 hW hcnd _
  have hval : ∀ (j : Nat) t v, Try.f6.params[j]? = some t → args[j]? = some v → Value.okWide Try.prog W .any base t v := hval0
  have hW' := hW
  obtain ⟨p, q, hA0, hV, rfl, hfz, hnd⟩ := hW
  have hA : DataW.TrodAll enc Try.prog W 0 (fun _ => true) true Try.f6.params.toList args.toList ds p := hA0
  rw [Try.params6] at hA hval
  obtain ⟨v0, vs0, d0, ds0, p0, q0, hargs, rfl, rfl, h0, r0⟩ := trodAll_cons hA
  obtain ⟨rfl, rfl, rfl⟩ := trodAll_nil r0
  obtain rfl : args = #[v0] := by cases args; simp_all
  obtain ⟨rfl, rfl⟩ := trodVars_none hV
  have k0 := h0
  have lt0 : ∀ x ∈ p0, x.block < W.heap.size := by obtain ⟨m, hm⟩ := k0; exact DataW.trod_lt m _ _ _ hm
  obtain ⟨a00, a01, a02, a03, rfl, w00, w01, w02, w03⟩ := openField (hval 0 23 v0 rfl rfl) h0
  clear hA0 hval0
  refine (walk a00 a01 a02 a03 w00 w01 w02 w03 W).mono fun e W' ⟨he, bel⟩ => ?_
  subst he
  exact ⟨_, rfl, _, _, _, [], _, [], hW', trodAll_mk1 (shut_bool Try.underlying4 _), (trodAll_cons_mk (Below.trod laidOut (by kernel_rfl) (of_decide_eq_true (by kernel_rfl)) k0 bel lt0) trodAll_mk0), rfl, bel.frame _, fun h => by cases h⟩

theorem over : Rows.fnExactSwungCellsRow.holds Try.pinned (OpenSpec.ofChange Rows.fnExactSwungCellsSpec) :=
  OpenClaim.holds_of_wide 6 Try.f6 rfl rfl rfl rfl rfl rfl rfl ⟨rfl, rfl, rfl, rfl, rfl⟩ rfl rfl rfl rfl rfl (by kernel_rfl) Try.func6 (by kernel_rfl)
    (of_decide_eq_true (by kernel_rfl)) (by unfold Func.isWrapper; first | (rw [if_pos (by decide +kernel)]; kernel_rfl) | (rw [if_neg (by decide +kernel)]; exact ⟨rfl, rfl⟩))
    (fun os started H enc _ => lifted os started H enc)

theorem proved : Rows.FnExactSwungCellsSaid := over
#print axioms proved

end Go.Proofs.Ytljeephifdopfaa.fnExactSwungCells
