/- FnCurves: for every code the tincture of a cell is that of its part, no cell is swung by a straight line, and ordinaries with straight lines are those of the shield. No condition. -/
import Derived.Test.YtfmigkiliggdhaaRows
import Derived.Test.YtfmigkiliggdhaaKeys
import Derived.Test.YtfmigkiliggdhaaCode
namespace Go.Proofs.Ytfmigkiliggdhaa.fnCurves
open Go.ChangeShapes Go.WideShapes Go.ChangeAt Go.RowKit
set_option linter.unusedVariables false
set_option linter.unusedSimpArgs false
theorem keyFT (d l p q x y : Int) : ∃ (t s : Int) (b : Bool), (∀ w, Calls Try.prog 33 #[.agg #[.int .i64 d, .int .i64 l, .int .i64 p, .int .i64 q], .int .i64 x, .int .i64 y] w fun e w' => e = .returned (.tuple #[.int .i64 t, .bool b]) ∧ Below w.heap.size w w') ∧ (∀ w, Calls Try.prog 35 #[.agg #[.int .i64 d, .int .i64 l, .int .i64 p, .int .i64 q], .int .i64 x, .int .i64 y] w fun e w' => e = .returned (.tuple #[.int .i64 t, .bool b]) ∧ Below w.heap.size w w') ∧
    (∀ w, Calls Try.prog 34 #[.agg #[.int .i64 d, .int .i64 l, .int .i64 p, .int .i64 q], .int .i64 x, .int .i64 y] w fun e w' => e = .returned (.tuple #[.int .i64 s, .bool b]) ∧ Below w.heap.size w w') ∧ (∀ w, Calls Try.prog 36 #[.agg #[.int .i64 d, .int .i64 l, .int .i64 p, .int .i64 q], .int .i64 x, .int .i64 y] w fun e w' => e = .returned (.tuple #[.int .i64 s, .bool b]) ∧ Below w.heap.size w w') ∧ (b = true → (s = 0 ∧ t = p) ∨ (s = 1 ∧ t = q)) := by
  refine ⟨_, _, _, fun w => FieldTincture_any d l p q x y w, fun w => specFieldTincture_any d l p q x y w, fun w => FieldPart_any d l p q x y w, fun w => specFieldPart_any d l p q x y w, ?_⟩
  intro hb
  rw [if_pos hb, if_pos hb]
  unfold tinF
  rcases partF_01 d l x y with h | h <;> rw [h] <;> simp
theorem keySwung (d l p q : Int) : ∃ (zs : List Int) (ok : Bool), zs.length ≤ 24 ∧ (∀ w, Calls Try.prog 38 #[.agg #[.int .i64 d, .int .i64 l, .int .i64 p, .int .i64 q]] w (RegOk w zs ok)) ∧ (∀ w, Calls Try.prog 39 #[.agg #[.int .i64 d, .int .i64 l, .int .i64 p, .int .i64 q]] w (RegOk w zs ok)) ∧
    ((ok && decide (l = 0)) = true → ∀ (A : Option Addr) (c : Nat) (w : World), RdI w A zs → Calls Try.prog 12 #[.agg #[.slice A zs.length c]] w fun e w' => e = .returned (.tuple #[.int .i64 0, .bool true]) ∧ Below w.heap.size w w') := by
  by_cases h : fieldOk d l p q = true
  · refine ⟨_, true, Nat.le_of_eq (regRows_len _), fun w => SwungCells_yes d l p q w h, fun w => specSwungCells_yes d l p q w h, fun hl A c w hr => ?_⟩
    have hl : l = 0 := by simpa using hl
    subst hl
    have e : (fun x y => partF d 0 x y != partF d 0 x y) = fun _ _ => false := by
      funext x y
      simp
    rw [e] at hr ⊢
    have := area_of _ A c w hr
    rw [area_none] at this
    exact this
  · exact ⟨[], false, by simp, fun w => SwungCells_no d l p q w h, fun w => specSwungCells_no d l p q w h, fun h => by simp at h⟩
theorem keyLined (o l : Int) : ∃ (zs : List Int) (ok : Bool), zs.length ≤ 24 ∧ (∀ w, Calls Try.prog 41 #[.int .i64 o, .int .i64 l] w (RegOk w zs ok)) ∧ (∀ w, Calls Try.prog 42 #[.int .i64 o, .int .i64 l] w (RegOk w zs ok)) ∧
    (ok = true → l = 0 → ∀ w, Calls Try.prog 15 #[.int .i64 o] w (RegOk w zs true)) := by
  by_cases h : (0 ≤ o ∧ o ≤ 7) ∧ (0 ≤ l ∧ l ≤ 4)
  · obtain ⟨⟨h1, h2⟩, h3, h4⟩ := h
    refine ⟨_, true, Nat.le_of_eq (regRows_len _), fun w => LinedOrdinary_yes o l w h1 h2 h3 h4, fun w => specLinedOrdinary_yes o l w h1 h2 h3 h4, fun _ hl w => ?_⟩
    subst hl
    exact OrdinaryCells_of o _ _ w fun w => LinedOrdinary_yes o 0 w h1 h2 h3 h4
  · exact ⟨[], false, by simp, fun w => LinedOrdinary_no o l w h, fun w => specLinedOrdinary_no o l w h, fun h => by cases h⟩
set_option maxHeartbeats 8000000 in
set_option maxRecDepth 20000 in
theorem walk (w : World) (A0 : Option Addr) (n0 c0 : Nat) (u0 : RdU w A0 n0) :
    Calls Try.prog 5 #[.slice A0 n0 c0] w fun e w' => e = .returned (.bool true) ∧ Below w.heap.size w w' := by
  by_cases hn : n0 ≤ 65536
  · have hn2 : decide (65536 < n0) = false := by simp; omega
    go_enter Try.func5, Try.ntmps5
    have hT := Below.refl w.heap.size w
    go_wp2_with fail
    refine (rBig_any A0 n0 c0 _).mono ?_
    rw [hn2]
    rintro e w1 ⟨rfl, rfl⟩
    clear hn2
    go_wp2_with fail
    refine (DrawFieldTincture_any A0 n0 c0 _ (u0.below hT) hn).mono ?_
    rintro e y1 ⟨d, l, p, q, x, y, rfl, -, hx⟩
    replace hT := Below_then hT hx
    clear hx
    replace hT := Below_al hT (.cells #[.int .i64 d, .int .i64 l, .int .i64 p, .int .i64 q] 43 (0, 0))
    have hF : (y1.alloc (.cells #[.int .i64 d, .int .i64 l, .int .i64 p, .int .i64 q] 43 (0, 0))).heap[y1.heap.size]? = some (.cells #[.int .i64 d, .int .i64 l, .int .i64 p, .int .i64 q] 43 (0, 0)) := heap_hit _ _ _ rfl
    obtain ⟨t, s, b, KI, KS, KP, KQ, hts⟩ := keyFT d l p q x y
    have KI1 := Lib.hid KI
    have KS1 := Lib.hid KS
    have KP1 := Lib.hid KP
    have KQ1 := Lib.hid KQ
    clear KI KS KP KQ
    have khF0 := cell_of hF 0
    have khF1 := cell_of hF 1
    have khF2 := cell_of hF 2
    have khF3 := cell_of hF 3
    go_wp2_with fail
    clear khF0 khF1 khF2 khF3
    refine (KI1.out _).mono ?_
    rintro e y2 ⟨rfl, hx⟩
    replace hT := Below_then hT hx
    replace hF := heap_keepB hF hx
    clear hx
    have khF0 := cell_of hF 0
    have khF1 := cell_of hF 1
    have khF2 := cell_of hF 2
    have khF3 := cell_of hF 3
    go_wp2_with fail
    clear khF0 khF1 khF2 khF3
    refine (KP1.out _).mono ?_
    rintro e y3 ⟨rfl, hx⟩
    replace hT := Below_then hT hx
    replace hF := heap_keepB hF hx
    clear hx
    have khF0 := cell_of hF 0
    have khF1 := cell_of hF 1
    have khF2 := cell_of hF 2
    have khF3 := cell_of hF 3
    go_wp2_with fail
    clear khF0 khF1 khF2 khF3
    refine (KS1.out _).mono ?_
    rintro e y4 ⟨rfl, hx⟩
    replace hT := Below_then hT hx
    replace hF := heap_keepB hF hx
    clear hx
    have khF0 := cell_of hF 0
    have khF1 := cell_of hF 1
    have khF2 := cell_of hF 2
    have khF3 := cell_of hF 3
    go_wp2_with fail
    clear khF0 khF1 khF2 khF3
    refine (KQ1.out _).mono ?_
    rintro e y5 ⟨rfl, hx⟩
    replace hT := Below_then hT hx
    replace hF := heap_keepB hF hx
    clear hx
    go_upto_region 10 with (fail)
    go_cut [103] (fun v wx => v = .bool false ∧ wx = y5)
    case first =>
      have khF0 := cell_of hF 0
      have khF1 := cell_of hF 1
      have khF2 := cell_of hF 2
      have khF3 := cell_of hF 3
      cases b
      · go_wp2_with fail
        go_meet
        exact ⟨rfl, rfl⟩
      · rcases hts rfl with ⟨rfl, rfl⟩ | ⟨rfl, rfl⟩
        · go_wp2_with fail
          go_meet
          exact ⟨rfl, rfl⟩
        · go_wp2_with fail
          go_meet
          exact ⟨rfl, rfl⟩
    case rest =>
      obtain ⟨rfl, rfl⟩ := hcut
      clear hts
      go_wp2_with fail
      refine (DrawSwungCells_any A0 n0 c0 _ (u0.below hT) hn).mono ?_
      rintro e y6 ⟨gd, gl, gp, gq, rfl, hx⟩
      replace hT := Below_then hT hx
      replace hF := heap_keepB hF hx
      clear hx
      clear hF
      replace hT := Below_al hT (.cells #[.int .i64 gd, .int .i64 gl, .int .i64 gp, .int .i64 gq] 43 (0, 0))
      have hG : (y6.alloc (.cells #[.int .i64 gd, .int .i64 gl, .int .i64 gp, .int .i64 gq] 43 (0, 0))).heap[y6.heap.size]? = some (.cells #[.int .i64 gd, .int .i64 gl, .int .i64 gp, .int .i64 gq] 43 (0, 0)) := heap_hit _ _ _ rfl
      obtain ⟨zs, ok, hzs, KI, KS, KA⟩ := keySwung gd gl gp gq
      have KI2 := Lib.hid KI
      have KS2 := Lib.hid KS
      have KA2 := Lib.hid KA
      clear KI KS KA
      have khG0 := cell_of hG 0
      have khG1 := cell_of hG 1
      have khG2 := cell_of hG 2
      have khG3 := cell_of hG 3
      go_wp2_with fail
      clear khG0 khG1 khG2 khG3
      refine (KI2.out _).mono ?_
      rintro e y7 ⟨v1, rfl, ho1, hx⟩
      replace hT := Below_then hT hx
      replace hG := heap_keepB hG hx
      clear hx
      obtain ⟨A1, c1, rfl, -⟩ := ho1.form
      replace hT := Below_al hT (.cells #[.slice A1 zs.length c1] 28 (0, 0))
      replace hG := heap_keepA hG (.cells #[.slice A1 zs.length c1] 28 (0, 0))
      replace ho1 := ho1.alloc (.cells #[.slice A1 zs.length c1] 28 (0, 0))
      have hB1 : (y7.alloc (.cells #[.slice A1 zs.length c1] 28 (0, 0))).heap[y7.heap.size]? = some (.cells #[.slice A1 zs.length c1] 28 (0, 0)) := heap_hit _ _ _ rfl
      have khG0 := cell_of hG 0
      have khG1 := cell_of hG 1
      have khG2 := cell_of hG 2
      have khG3 := cell_of hG 3
      go_wp2_with fail
      clear khG0 khG1 khG2 khG3
      refine (KS2.out _).mono ?_
      rintro e y8 ⟨v2, rfl, ho2, hx⟩
      replace hT := Below_then hT hx
      replace hG := heap_keepB hG hx
      replace ho1 := ho1.below hx
      replace hB1 := heap_keepB hB1 hx
      clear hx
      obtain ⟨A2, c2, rfl, -⟩ := ho2.form
      replace hT := Below_al hT (.cells #[.slice A2 zs.length c2] 28 (0, 0))
      replace hG := heap_keepA hG (.cells #[.slice A2 zs.length c2] 28 (0, 0))
      replace ho1 := ho1.alloc (.cells #[.slice A2 zs.length c2] 28 (0, 0))
      replace hB1 := heap_keepA hB1 (.cells #[.slice A2 zs.length c2] 28 (0, 0))
      replace ho2 := ho2.alloc (.cells #[.slice A2 zs.length c2] 28 (0, 0))
      have hB2 : (y8.alloc (.cells #[.slice A2 zs.length c2] 28 (0, 0))).heap[y8.heap.size]? = some (.cells #[.slice A2 zs.length c2] 28 (0, 0)) := heap_hit _ _ _ rfl
      have khB10 := cell_of hB1 0
      have khB20 := cell_of hB2 0
      go_wp2_with fail
      clear khB10 khB20
      refine (rInts_same zs _ ho1 ho2 (by omega)).mono ?_
      rintro e y9 ⟨rfl, hx⟩
      replace hT := Below_then hT hx
      replace hG := heap_keepB hG hx
      replace ho1 := ho1.below hx
      replace hB1 := heap_keepB hB1 hx
      replace ho2 := ho2.below hx
      replace hB2 := heap_keepB hB2 hx
      clear hx
      go_upto_region 17 with (fail)
      go_cut [132] (fun v wx => v = .bool (ok && decide (gl = 0)) ∧ wx = y9)
      case first =>
        have khG0 := cell_of hG 0
        have khG1 := cell_of hG 1
        have khG2 := cell_of hG 2
        have khG3 := cell_of hG 3
        cases ok
        · go_wp2_with fail
          go_meet
          exact ⟨congrArg Value.bool (by rw [Bool.eq_iff_iff]; simp), rfl⟩
        · go_wp2_with fail
          go_meet
          exact ⟨congrArg Value.bool (by rw [Bool.eq_iff_iff]; simp), rfl⟩
      case rest =>
        obtain ⟨rfl, rfl⟩ := hcut
        obtain ⟨tst, htst⟩ : ∃ tst, tst = (ok && decide (gl = 0)) := ⟨_, rfl⟩
        rw [← htst] at KA2 ⊢
        go_upto_if 132 with (fail)
        go_cut [] (fun wx => Below wc.heap.size wc wx)
        case first =>
          clear htst
          cases tst
          · go_wp2_with fail
            go_meet
            exact Below.refl _ _
          · have r1 := reads ho1
            have khB10 := cell_of hB1 0
            go_wp2_with fail
            refine (KA2.out (by simp) _ _ _ r1).mono ?_
            rintro e wa ⟨rfl, hwa⟩
            go_wp2_with fail
            go_meet
            exact hwa
        case rest =>
          clear htst KA2
          replace hT := Below_then hT hcut
          go_wp2_with fail
          refine (DrawLinedOrdinary_any A0 n0 c0 _ (u0.below hT) hn).mono ?_
          rintro e y10 ⟨o, ln, rfl, -, hx⟩
          replace hT := Below_then hT hx
          clear hx
          obtain ⟨zo, ok2, hzo, KI, KS, KO⟩ := keyLined o ln
          have KI3 := Lib.hid KI
          have KS3 := Lib.hid KS
          have KO3 := Lib.hid KO
          clear KI KS KO
          go_wp2_with fail
          refine (KI3.out _).mono ?_
          rintro e y11 ⟨v3, rfl, ho3, hx⟩
          replace hT := Below_then hT hx
          clear hx
          obtain ⟨A3, c3, rfl, -⟩ := ho3.form
          replace hT := Below_al hT (.cells #[.slice A3 zo.length c3] 28 (0, 0))
          replace ho3 := ho3.alloc (.cells #[.slice A3 zo.length c3] 28 (0, 0))
          have hB3 : (y11.alloc (.cells #[.slice A3 zo.length c3] 28 (0, 0))).heap[y11.heap.size]? = some (.cells #[.slice A3 zo.length c3] 28 (0, 0)) := heap_hit _ _ _ rfl
          go_wp2_with fail
          refine (KS3.out _).mono ?_
          rintro e y12 ⟨v4, rfl, ho4, hx⟩
          replace hT := Below_then hT hx
          replace ho3 := ho3.below hx
          replace hB3 := heap_keepB hB3 hx
          clear hx
          obtain ⟨A4, c4, rfl, -⟩ := ho4.form
          replace hT := Below_al hT (.cells #[.slice A4 zo.length c4] 28 (0, 0))
          replace ho3 := ho3.alloc (.cells #[.slice A4 zo.length c4] 28 (0, 0))
          replace hB3 := heap_keepA hB3 (.cells #[.slice A4 zo.length c4] 28 (0, 0))
          replace ho4 := ho4.alloc (.cells #[.slice A4 zo.length c4] 28 (0, 0))
          have hB4 : (y12.alloc (.cells #[.slice A4 zo.length c4] 28 (0, 0))).heap[y12.heap.size]? = some (.cells #[.slice A4 zo.length c4] 28 (0, 0)) := heap_hit _ _ _ rfl
          have khB30 := cell_of hB3 0
          have khB40 := cell_of hB4 0
          go_wp2_with fail
          clear khB30 khB40
          refine (rInts_same zo _ ho3 ho4 (by omega)).mono ?_
          rintro e y13 ⟨rfl, hx⟩
          replace hT := Below_then hT hx
          replace ho3 := ho3.below hx
          replace hB3 := heap_keepB hB3 hx
          replace ho4 := ho4.below hx
          replace hB4 := heap_keepB hB4 hx
          clear hx
          cases ok2
          · go_wp2
            go_ret
            exact ⟨rfl, hT⟩
          · by_cases hl0 : ln = 0
            · have KB := Lib.hid (KO3.out (by simp) hl0)
              subst hl0
              go_wp2_with fail
              refine (KB.out _).mono ?_
              rintro e y14 ⟨v5, rfl, ho5, hx⟩
              replace hT := Below_then hT hx
              replace ho3 := ho3.below hx
              replace hB3 := heap_keepB hB3 hx
              replace ho4 := ho4.below hx
              replace hB4 := heap_keepB hB4 hx
              clear hx
              obtain ⟨A5, c5, rfl, -⟩ := ho5.form
              replace hT := Below_al hT (.cells #[.slice A5 zo.length c5] 28 (0, 0))
              replace ho3 := ho3.alloc (.cells #[.slice A5 zo.length c5] 28 (0, 0))
              replace hB3 := heap_keepA hB3 (.cells #[.slice A5 zo.length c5] 28 (0, 0))
              replace ho4 := ho4.alloc (.cells #[.slice A5 zo.length c5] 28 (0, 0))
              replace hB4 := heap_keepA hB4 (.cells #[.slice A5 zo.length c5] 28 (0, 0))
              replace ho5 := ho5.alloc (.cells #[.slice A5 zo.length c5] 28 (0, 0))
              have hB5 : (y14.alloc (.cells #[.slice A5 zo.length c5] 28 (0, 0))).heap[y14.heap.size]? = some (.cells #[.slice A5 zo.length c5] 28 (0, 0)) := heap_hit _ _ _ rfl
              have khB30 := cell_of hB3 0
              have khB50 := cell_of hB5 0
              go_wp2_with fail
              clear khB30 khB50
              refine (rInts_same zo _ ho3 ho5 (by omega)).mono ?_
              rintro e y15 ⟨rfl, hx⟩
              replace hT := Below_then hT hx
              replace ho3 := ho3.below hx
              replace hB3 := heap_keepB hB3 hx
              replace ho4 := ho4.below hx
              replace hB4 := heap_keepB hB4 hx
              replace ho5 := ho5.below hx
              replace hB5 := heap_keepB hB5 hx
              clear hx
              go_wp2
              go_ret
              exact ⟨rfl, hT⟩
            · go_wp2
              go_ret
              exact ⟨rfl, hT⟩
  · have hn2 : decide (65536 < n0) = true := by simp; omega
    go_enter Try.func5, Try.ntmps5
    go_wp2_with fail
    refine (rBig_any A0 n0 c0 _).mono ?_
    rw [hn2]
    rintro e w1 ⟨rfl, rfl⟩
    go_wp2
    go_ret
    exact ⟨rfl, Below.refl _ _⟩

/-! ### The row's step: written by a program of mine (frame.py) after the kit's shell -/
theorem laidOut : laidOutB Try.prog = true := by kernel_rfl
set_option maxRecDepth 100000 in
theorem lifted (os : Os) (started : os.Started) (H : Type) (enc : TypeId × Value → H) :
    ReturnsInHanded {} Try.checked os 5 .any (Rows.fnCurvesSpec.pre6 enc Try.prog Try.f5 Rows.fnCurvesRow.domain false) (Rows.fnCurvesSpec.post enc Try.prog Try.f5 false true false false) := by
  refine returnsInHanded_of_change (C := Try.checked) own started (by kernel_rfl) Try.func5
    (ChangeSpec.witness6 (enc := enc) (C := Try.checked) false ⟨#[], #[.slice none 0 0], []⟩ 8 (by kernel_rfl) (by kernel_rfl) (by kernel_rfl) (by kernel_rfl)) ?_
  intro W base args ds gs before hval0 hW hcnd _
  have hval : ∀ (j : Nat) t v, Try.f5.params[j]? = some t → args[j]? = some v → Value.okWide Try.prog W .any base t v := hval0
  have hW' := hW
  obtain ⟨p, q, hA0, hV, rfl, hfz, hnd⟩ := hW
  have hA : DataW.TrodAll enc Try.prog W 0 (fun _ => true) true Try.f5.params.toList args.toList ds p := hA0
  rw [Try.params5] at hA hval
  obtain ⟨v0, vs0, d0, ds0, p0, q0, hargs, rfl, rfl, h0, r0⟩ := trodAll_cons hA
  obtain ⟨rfl, rfl, rfl⟩ := trodAll_nil r0
  obtain rfl : args = #[v0] := by cases args; simp_all
  obtain ⟨rfl, rfl⟩ := trodVars_none hV
  have k0 := h0
  have lt0 : ∀ x ∈ p0, x.block < W.heap.size := by obtain ⟨m, hm⟩ := k0; exact DataW.trod_lt m _ _ _ hm
  obtain ⟨A0, n0, c0, rfl, u0⟩ := openCode (hval 0 22 v0 rfl rfl) h0
  clear hA0 hval0
  refine (walk W A0 n0 c0 u0).mono fun e W' ⟨he, bel⟩ => ?_
  subst he
  exact ⟨_, rfl, _, _, _, [], _, [], hW', trodAll_mk1 (shut_bool Try.underlying4 _), (trodAll_cons_mk (Below.trod laidOut (by kernel_rfl) (of_decide_eq_true (by kernel_rfl)) k0 bel lt0) trodAll_mk0), rfl, bel.frame _, fun h => by cases h⟩

theorem over : Rows.fnCurvesRow.holds Try.pinned (OpenSpec.ofChange Rows.fnCurvesSpec) :=
  OpenClaim.holds_of_wide 5 Try.f5 rfl rfl rfl rfl rfl rfl rfl ⟨rfl, rfl, rfl, rfl, rfl⟩ rfl rfl rfl rfl rfl (by kernel_rfl) Try.func5 (by kernel_rfl)
    (of_decide_eq_true (by kernel_rfl)) (by unfold Func.isWrapper; first | (rw [if_pos (by decide +kernel)]; kernel_rfl) | (rw [if_neg (by decide +kernel)]; exact ⟨rfl, rfl⟩))
    (fun os started H enc _ => lifted os started H enc)

theorem proved : Rows.FnCurvesSaid := over
#print axioms proved

end Go.Proofs.Ytfmigkiliggdhaa.fnCurves
