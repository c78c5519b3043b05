/- FnLines: for every code offsets repeat with their period, and the parts of a field with a line make up the shield. No condition. -/
import Derived.Test.YtfmigkiliggdhaaRows
import Derived.Test.YtfmigkiliggdhaaKeys
import Derived.Test.YtfmigkiliggdhaaCode
namespace Go.Proofs.Ytfmigkiliggdhaa.fnLines
open Go.ChangeShapes Go.WideShapes Go.ChangeAt Go.RowKit
set_option linter.unusedVariables false
set_option linter.unusedSimpArgs false
theorem offL_le (line : Int) : ((offL line).length : Int) ≤ 8 := by
  unfold offL
  split
  · simp
  · split
    · simp
    · split
      · simp
      · split <;> simp
theorem keyLine (line t : Int) : ∃ (x P : Int) (b bP : Bool), (∀ w, Calls Try.prog 22 #[.int .i64 line, .int .i64 t] w fun e w' => e = .returned (.tuple #[.int .i64 x, .bool b]) ∧ Below w.heap.size w w') ∧
    (∀ w, Calls Try.prog 23 #[.int .i64 line, .int .i64 t] w fun e w' => e = .returned (.tuple #[.int .i64 x, .bool b]) ∧ Below w.heap.size w w') ∧
    (∀ w, Calls Try.prog 24 #[.int .i64 line] w fun e w' => e = .returned (.tuple #[.int .i64 P, .bool bP]) ∧ Below w.heap.size w w') ∧
    (∀ w, Calls Try.prog 25 #[.int .i64 line] w fun e w' => e = .returned (.tuple #[.int .i64 P, .bool bP]) ∧ Below w.heap.size w w') ∧ (0 ≤ P ∧ P ≤ 8) ∧
    (b = true → t + P ≤ 1000 → ∀ w, Calls Try.prog 22 #[.int .i64 line, .int .i64 (t + P)] w fun e w' => e = .returned (.tuple #[.int .i64 x, .bool true]) ∧ Below w.heap.size w w') := by
  refine ⟨_, _, _, _, fun w => LineOffset_any line t w, fun w => specLineOffset_any line t w, fun w => LinePeriod_any line w, fun w => specLinePeriod_any line w, ?_, ?_⟩
  · have := offL_le line
    split <;> omega
  · intro hb hP w
    have hb' := hb
    simp only [lineOffsetOk, Bool.and_eq_true, decide_eq_true_eq] at hb
    obtain ⟨h1, h2⟩ := hb
    rw [if_pos h1] at hP ⊢
    have := LineOffset_any line (t + ((offL line).length : Int)) w
    have e1 : lineOffsetOk line (t + ((offL line).length : Int)) = true := by
      simp only [lineOffsetOk, Bool.and_eq_true, decide_eq_true_eq]
      omega
    have e2 : offF line (t + ((offL line).length : Int)) = offF line t := by
      unfold offF
      rw [Int.add_emod_right]
    rw [e1, e2] at this
    rw [hb']
    exact this
theorem keyTurns (x n : Int) (hn : 0 ≤ n ∧ n ≤ 1001) : ∃ (z : Int) (b : Bool), (∀ w, Calls Try.prog 30 #[.int .i64 x, .int .i64 n] w fun e w' => e = .returned (.tuple #[.int .i64 z, .bool b]) ∧ Below w.heap.size w w') ∧
    (∀ w, Calls Try.prog 31 #[.int .i64 x, .int .i64 n] w fun e w' => e = .returned (.tuple #[.int .i64 z, .bool b]) ∧ Below w.heap.size w w') ∧ (b = true → z < n) := by
  refine ⟨_, _, fun w => LineTurns_any x n w, fun w => specLineTurns_any x n w, ?_⟩
  intro hb
  rw [hb, if_pos rfl]
  simp only [lineTurnsOk, Bool.and_eq_true, decide_eq_true_eq] at hb
  have := turnsJ_bd x (n - 1).toNat
  omega
set_option maxHeartbeats 8000000 in
set_option maxRecDepth 20000 in
theorem walk (w : World) (A0 : Option Addr) (n0 c0 : Nat) (u0 : RdU w A0 n0) :
    Calls Try.prog 4 #[.slice A0 n0 c0] w fun e w' => e = .returned (.bool true) ∧ Below w.heap.size w w' := by
  by_cases hn : n0 ≤ 65536
  · have hn2 : decide (65536 < n0) = false := by simp; omega
    go_enter Try.func4, Try.ntmps4
    have hT := Below.refl w.heap.size w
    go_wp2_with fail
    refine (rBig_any A0 n0 c0 _).mono ?_
    rw [hn2]
    rintro e w1 ⟨rfl, rfl⟩
    clear hn2
    go_wp2_with fail
    refine (DrawLineOffset_any A0 n0 c0 _ (u0.below hT) hn).mono ?_
    rintro e y1 ⟨ln, t, rfl, hlt, hx⟩
    replace hT := Below_then hT hx
    clear hx
    obtain ⟨x, P, b, bP, KI, KS, KP, KQ, hP, KA⟩ := keyLine ln t
    have KI' := Lib.hid KI
    have KS' := Lib.hid KS
    have KP' := Lib.hid KP
    have KQ' := Lib.hid KQ
    have KA' := Lib.hid KA
    have ht := hlt.2
    clear KI KS KP KQ KA hlt
    go_wp2_with fail
    refine (KI'.out _).mono ?_
    rintro e y2 ⟨rfl, hx⟩
    replace hT := Below_then hT hx
    clear hx
    go_wp2_with fail
    refine (KS'.out _).mono ?_
    rintro e y3 ⟨rfl, hx⟩
    replace hT := Below_then hT hx
    clear hx
    go_wp2_with fail
    refine (KP'.out _).mono ?_
    rintro e y4 ⟨rfl, hx⟩
    replace hT := Below_then hT hx
    clear hx
    go_wp2_with fail
    refine (KQ'.out _).mono ?_
    rintro e y5 ⟨rfl, hx⟩
    replace hT := Below_then hT hx
    clear hx
    go_upto_region 12 with (fail)
    go_cut [88] (fun v wx => v = .bool (b && decide (t + P ≤ 1000)) ∧ wx = y5)
    case first =>
      cases b
      · go_wp2_with fail
        go_meet
        exact ⟨by simp, rfl⟩
      · go_wp2_with fail
        go_meet
        exact ⟨by simp, rfl⟩
    case rest =>
      obtain ⟨rfl, rfl⟩ := hcut
      obtain ⟨tst, htst⟩ : ∃ tst, tst = (b && decide (t + P ≤ 1000)) := ⟨_, rfl⟩
      rw [← htst]
      go_upto_if 88 with (fail)
      go_cut [] (fun wx => Below wc.heap.size wc wx)
      case first =>
        cases tst
        · go_wp2_with fail
          go_meet
          exact Below.refl _ _
        · rw [eq_comm, Bool.and_eq_true, decide_eq_true_eq] at htst
          obtain ⟨rfl, htp⟩ := htst
          have KB := Lib.hid (KA'.out rfl htp)
          go_wp2_with fail
          refine (KB.out _).mono ?_
          rintro e wa ⟨rfl, hwa⟩
          go_wp2_with fail
          go_meet
          exact hwa
      case rest =>
        clear htst
        replace hT := Below_then hT hcut
        go_wp2_with fail
        refine (DrawFieldRegion_any A0 n0 c0 _ (u0.below hT) hn).mono ?_
        rintro e y6 ⟨fd, fl, fp, fq, s, rfl, hs, hx⟩
        replace hT := Below_then hT hx
        clear hx
        replace hT := Below_al hT (.cells #[.int .i64 fd, .int .i64 fl, .int .i64 fp, .int .i64 fq] 43 (0, 0))
        have hF : (y6.alloc (.cells #[.int .i64 fd, .int .i64 fl, .int .i64 fp, .int .i64 fq] 43 (0, 0))).heap[y6.heap.size]? = some (.cells #[.int .i64 fd, .int .i64 fl, .int .i64 fp, .int .i64 fq] 43 (0, 0)) := heap_hit _ _ _ rfl
        by_cases hv : fieldOk fd fl fp fq = true ∧ (0 ≤ s ∧ s ≤ 1)
        · obtain ⟨xs, ys, aT, aN, HP, KI, KS, KJ⟩ := keyField fd fl fp fq s hv.1 hv.2
          obtain ⟨n1, n2, hn1, hn2, HN1, HN2, HN3⟩ := HP.areas
          have hp0 := hv.2.1
          have hp1 := hv.2.2
          have lx : xs.length ≤ 24 := Nat.le_of_eq HP.lx
          have ly : ys.length ≤ 24 := Nat.le_of_eq HP.ly
          have lT : aT.length ≤ 24 := Nat.le_of_eq HP.lT
          have KI2 := Lib.hid KI
          have KS2 := Lib.hid KS
          have KJ2 := Lib.hid KJ
          have HP' := Lib.hid HP
          have HN1' := Lib.hid HN1
          have HN2' := Lib.hid HN2
          have HN3' := Lib.hid HN3
          clear KI KS KJ HP HN1 HN2 HN3 hv hs
          have khF0 := cell_of hF 0
          have khF1 := cell_of hF 1
          have khF2 := cell_of hF 2
          have khF3 := cell_of hF 3
          go_wp2_with fail
          clear khF0 khF1 khF2 khF3
          refine (KI2.out _).mono ?_
          rintro e y7 ⟨v1, rfl, ho1, hx⟩
          replace hT := Below_then hT hx
          replace hF := heap_keepB hF hx
          clear hx
          obtain ⟨A1, c1, rfl, -⟩ := ho1.form
          replace hT := Below_al hT (.cells #[.slice A1 xs.length c1] 28 (0, 0))
          replace hF := heap_keepA hF (.cells #[.slice A1 xs.length c1] 28 (0, 0))
          replace ho1 := ho1.alloc (.cells #[.slice A1 xs.length c1] 28 (0, 0))
          have hB1 : (y7.alloc (.cells #[.slice A1 xs.length c1] 28 (0, 0))).heap[y7.heap.size]? = some (.cells #[.slice A1 xs.length c1] 28 (0, 0)) := heap_hit _ _ _ rfl
          have khF0 := cell_of hF 0
          have khF1 := cell_of hF 1
          have khF2 := cell_of hF 2
          have khF3 := cell_of hF 3
          go_wp2_with fail
          clear khF0 khF1 khF2 khF3
          refine (KS2.out _).mono ?_
          rintro e y8 ⟨v2, rfl, ho2, hx⟩
          replace hT := Below_then hT hx
          replace hF := heap_keepB hF hx
          replace ho1 := ho1.below hx
          replace hB1 := heap_keepB hB1 hx
          clear hx
          obtain ⟨A2, c2, rfl, -⟩ := ho2.form
          replace hT := Below_al hT (.cells #[.slice A2 xs.length c2] 28 (0, 0))
          replace hF := heap_keepA hF (.cells #[.slice A2 xs.length c2] 28 (0, 0))
          replace ho1 := ho1.alloc (.cells #[.slice A2 xs.length c2] 28 (0, 0))
          replace hB1 := heap_keepA hB1 (.cells #[.slice A2 xs.length c2] 28 (0, 0))
          replace ho2 := ho2.alloc (.cells #[.slice A2 xs.length c2] 28 (0, 0))
          have hB2 : (y8.alloc (.cells #[.slice A2 xs.length c2] 28 (0, 0))).heap[y8.heap.size]? = some (.cells #[.slice A2 xs.length c2] 28 (0, 0)) := heap_hit _ _ _ rfl
          have khB10 := cell_of hB1 0
          have khB20 := cell_of hB2 0
          go_wp2_with fail
          clear khB10 khB20
          refine (rInts_same xs _ ho1 ho2 (by omega)).mono ?_
          rintro e y9 ⟨rfl, hx⟩
          replace hT := Below_then hT hx
          replace hF := heap_keepB hF hx
          replace ho1 := ho1.below hx
          replace hB1 := heap_keepB hB1 hx
          replace ho2 := ho2.below hx
          replace hB2 := heap_keepB hB2 hx
          clear hx
          have khF0 := cell_of hF 0
          have khF1 := cell_of hF 1
          have khF2 := cell_of hF 2
          have khF3 := cell_of hF 3
          go_wp2_with fail
          clear khF0 khF1 khF2 khF3
          refine (KJ2.out _).mono ?_
          rintro e y10 ⟨v3, rfl, ho3, hx⟩
          replace hT := Below_then hT hx
          replace hF := heap_keepB hF hx
          replace ho1 := ho1.below hx
          replace hB1 := heap_keepB hB1 hx
          replace ho2 := ho2.below hx
          replace hB2 := heap_keepB hB2 hx
          clear hx
          obtain ⟨A3, c3, rfl, -⟩ := ho3.form
          replace hT := Below_al hT (.cells #[.slice A3 ys.length c3] 28 (0, 0))
          replace hF := heap_keepA hF (.cells #[.slice A3 ys.length c3] 28 (0, 0))
          replace ho1 := ho1.alloc (.cells #[.slice A3 ys.length c3] 28 (0, 0))
          replace hB1 := heap_keepA hB1 (.cells #[.slice A3 ys.length c3] 28 (0, 0))
          replace ho2 := ho2.alloc (.cells #[.slice A3 ys.length c3] 28 (0, 0))
          replace hB2 := heap_keepA hB2 (.cells #[.slice A3 ys.length c3] 28 (0, 0))
          replace ho3 := ho3.alloc (.cells #[.slice A3 ys.length c3] 28 (0, 0))
          have hB3 : (y10.alloc (.cells #[.slice A3 ys.length c3] 28 (0, 0))).heap[y10.heap.size]? = some (.cells #[.slice A3 ys.length c3] 28 (0, 0)) := heap_hit _ _ _ rfl
          have r1 := reads ho1
          have r3 := reads ho3
          have khB10 := cell_of hB1 0
          have khB30 := cell_of hB3 0
          go_wp2_with fail
          clear khB10 khB30
          refine (HP'.out.union _ _ _ _ _ r1 r3).mono ?_
          rintro e y11 ⟨v4, rfl, ho4, hx⟩
          replace hT := Below_then hT hx
          replace hF := heap_keepB hF hx
          replace ho1 := ho1.below hx
          replace hB1 := heap_keepB hB1 hx
          replace ho2 := ho2.below hx
          replace hB2 := heap_keepB hB2 hx
          replace ho3 := ho3.below hx
          replace hB3 := heap_keepB hB3 hx
          clear hx
          obtain ⟨A4, c4, rfl, -⟩ := ho4.form
          replace hT := Below_al hT (.cells #[.slice A4 aT.length c4] 28 (0, 0))
          replace hF := heap_keepA hF (.cells #[.slice A4 aT.length c4] 28 (0, 0))
          replace ho1 := ho1.alloc (.cells #[.slice A4 aT.length c4] 28 (0, 0))
          replace hB1 := heap_keepA hB1 (.cells #[.slice A4 aT.length c4] 28 (0, 0))
          replace ho2 := ho2.alloc (.cells #[.slice A4 aT.length c4] 28 (0, 0))
          replace hB2 := heap_keepA hB2 (.cells #[.slice A4 aT.length c4] 28 (0, 0))
          replace ho3 := ho3.alloc (.cells #[.slice A4 aT.length c4] 28 (0, 0))
          replace hB3 := heap_keepA hB3 (.cells #[.slice A4 aT.length c4] 28 (0, 0))
          replace ho4 := ho4.alloc (.cells #[.slice A4 aT.length c4] 28 (0, 0))
          have hB4 : (y11.alloc (.cells #[.slice A4 aT.length c4] 28 (0, 0))).heap[y11.heap.size]? = some (.cells #[.slice A4 aT.length c4] 28 (0, 0)) := heap_hit _ _ _ rfl
          clear r1 r3
          have r1 := reads ho1
          have khB10 := cell_of hB1 0
          go_wp2_with fail
          clear khB10
          refine (HN1'.out _ _ _ r1).mono ?_
          rintro e y12 ⟨rfl, hx⟩
          replace hT := Below_then hT hx
          replace hF := heap_keepB hF hx
          replace ho1 := ho1.below hx
          replace hB1 := heap_keepB hB1 hx
          replace ho2 := ho2.below hx
          replace hB2 := heap_keepB hB2 hx
          replace ho3 := ho3.below hx
          replace hB3 := heap_keepB hB3 hx
          replace ho4 := ho4.below hx
          replace hB4 := heap_keepB hB4 hx
          clear hx
          clear r1
          have r3 := reads ho3
          have khB30 := cell_of hB3 0
          go_wp2_with fail
          clear khB30
          refine (HN2'.out _ _ _ r3).mono ?_
          rintro e y13 ⟨rfl, hx⟩
          replace hT := Below_then hT hx
          replace hF := heap_keepB hF hx
          replace ho1 := ho1.below hx
          replace hB1 := heap_keepB hB1 hx
          replace ho2 := ho2.below hx
          replace hB2 := heap_keepB hB2 hx
          replace ho3 := ho3.below hx
          replace hB3 := heap_keepB hB3 hx
          replace ho4 := ho4.below hx
          replace hB4 := heap_keepB hB4 hx
          clear hx
          clear r3
          have r4 := reads ho4
          have khB40 := cell_of hB4 0
          go_wp2_with fail
          clear khB40
          refine (HN3'.out _ _ _ r4).mono ?_
          rintro e y14 ⟨rfl, hx⟩
          replace hT := Below_then hT hx
          replace hF := heap_keepB hF hx
          replace ho1 := ho1.below hx
          replace hB1 := heap_keepB hB1 hx
          replace ho2 := ho2.below hx
          replace hB2 := heap_keepB hB2 hx
          replace ho3 := ho3.below hx
          replace hB3 := heap_keepB hB3 hx
          replace ho4 := ho4.below hx
          replace hB4 := heap_keepB hB4 hx
          clear hx
          clear r4
          go_wp2_with fail
          have khB40 := cell_of hB4 0
          have wr1 : IntKind.i64.wrap ((n1 : Int) + (n2 : Int)) = (n1 : Int) + (n2 : Int) := wraps_i64 _ (by omega) (by omega)
          refine wp_region_noPanic ?_
          refine wp_region_held_drew (S := (fun w' => w'.cell? ⟨y11.heap.size, 0, none⟩ = some (.slice A4 aT.length c4 : Value) ∧ Below y14.heap.size y14 w')) (by kernel_rfl) ⟨khB40, (Below.refl _ _).drew⟩ (fun hHeld => ?_)
          refine wpAnyH_take (i := 0) (oi := _) (v := ?_) rfl (by kernel_rfl) (by kernel_rfl) (by kernel_rfl) (fun _ _ _ h => h) (Or.inl ⟨by rfl, ?_⟩) (by assumption) ?_
          rotate_left
          · intro w hSw; clear hSw; first | (go_simp; done) | (go_simp; with_reducible rfl)
          simp only [Act.put, List.getElem_toArray, List.getElem_cons_succ, List.getElem_cons_zero, List.setIfInBounds_toArray, List.set_cons_zero, List.set_cons_succ]
          refine wpAnyH_take (i := 1) (oi := _) (v := ?_) rfl (by kernel_rfl) (by kernel_rfl) (by kernel_rfl) (fun _ _ _ h => h) (Or.inl ⟨by rfl, ?_⟩) (by assumption) ?_
          rotate_left
          · intro w hSw; clear hSw; first | (go_simp; done) | (go_simp; with_reducible rfl)
          simp only [Act.put, List.getElem_toArray, List.getElem_cons_succ, List.getElem_cons_zero, List.setIfInBounds_toArray, List.set_cons_zero, List.set_cons_succ]
          refine wpAnyH_take (i := 2) (oi := _) (v := ?_) rfl (by kernel_rfl) (by kernel_rfl) (by kernel_rfl) (fun _ _ _ h => h) (Or.inl ⟨by rfl, ?_⟩) (by assumption) ?_
          rotate_left
          · intro w hSw; clear hSw; first | (go_simp; done) | (go_simp; with_reducible rfl)
          simp only [Act.put, List.getElem_toArray, List.getElem_cons_succ, List.getElem_cons_zero, List.setIfInBounds_toArray, List.set_cons_zero, List.set_cons_succ]
          refine wpAnyH_take (i := 3) (oi := _) (v := ?_) rfl (by kernel_rfl) (by kernel_rfl) (by kernel_rfl) (fun _ _ _ h => h) (Or.inl ⟨by rfl, ?_⟩) (by assumption) ?_
          rotate_left
          · intro w hSw; clear hSw; first | (go_simp; done) | (go_simp; with_reducible rfl)
          simp only [Act.put, List.getElem_toArray, List.getElem_cons_succ, List.getElem_cons_zero, List.setIfInBounds_toArray, List.set_cons_zero, List.set_cons_succ]
          refine wpAnyH_take (i := 4) (oi := _) (v := ?_) rfl (by kernel_rfl) (by kernel_rfl) (by kernel_rfl) (fun _ _ _ h => h) (Or.inl ⟨by rfl, ?_⟩) (by assumption) ?_
          rotate_left
          · intro w hSw; clear hSw; first | (go_simp; done) | (go_simp; with_reducible rfl)
          simp only [Act.put, List.getElem_toArray, List.getElem_cons_succ, List.getElem_cons_zero, List.setIfInBounds_toArray, List.set_cons_zero, List.set_cons_succ]
          refine wpAnyH_take (i := 5) (oi := _) (v := ?_) rfl (by kernel_rfl) (by kernel_rfl) (by kernel_rfl) (fun _ _ _ h => h) (Or.inl ⟨by rfl, ?_⟩) (by assumption) ?_
          rotate_left
          · intro w hSw; clear hSw; first | (go_simp; done) | (go_simp; with_reducible rfl)
          simp only [Act.put, List.getElem_toArray, List.getElem_cons_succ, List.getElem_cons_zero, List.setIfInBounds_toArray, List.set_cons_zero, List.set_cons_succ]
          refine wpAnyH_take (i := 6) (oi := _) (v := ?_) rfl (by kernel_rfl) (by kernel_rfl) (by kernel_rfl) (fun _ _ _ h => h) (Or.inl ⟨by rfl, ?_⟩) (by assumption) ?_
          rotate_left
          · intro w hSw; clear hSw; first | (go_simp; done) | (go_simp; with_reducible rfl)
          simp only [Act.put, List.getElem_toArray, List.getElem_cons_succ, List.getElem_cons_zero, List.setIfInBounds_toArray, List.set_cons_zero, List.set_cons_succ]
          refine wpAnyH_take (i := 7) (oi := _) (v := ?_) rfl (by kernel_rfl) (by kernel_rfl) (by kernel_rfl) (fun _ _ _ h => h) (Or.inl ⟨by rfl, ?_⟩) (by assumption) ?_
          rotate_left
          · intro w hSw; clear hSw; first | (go_simp; done) | (go_simp; with_reducible rfl)
          simp only [Act.put, List.getElem_toArray, List.getElem_cons_succ, List.getElem_cons_zero, List.setIfInBounds_toArray, List.set_cons_zero, List.set_cons_succ]
          refine wpAnyH_take (i := 8) (oi := _) (v := ?_) rfl (by kernel_rfl) (by kernel_rfl) (by kernel_rfl) (fun _ _ _ h => h) (Or.inl ⟨by rfl, ?_⟩) (by assumption) ?_
          rotate_left
          · intro w hSw; clear hSw; first | (go_simp; done) | (go_simp; with_reducible rfl)
          simp only [Act.put, List.getElem_toArray, List.getElem_cons_succ, List.getElem_cons_zero, List.setIfInBounds_toArray, List.set_cons_zero, List.set_cons_succ]
          refine wpAnyH_take (i := 9) (oi := _) (v := ?_) rfl (by kernel_rfl) (by kernel_rfl) (by kernel_rfl) (fun _ _ _ h => h) (Or.inl ⟨by rfl, ?_⟩) (by assumption) ?_
          rotate_left
          · intro w hSw; clear hSw; first | (go_simp; done) | (go_simp; with_reducible rfl)
          simp only [Act.put, List.getElem_toArray, List.getElem_cons_succ, List.getElem_cons_zero, List.setIfInBounds_toArray, List.set_cons_zero, List.set_cons_succ]
          refine wpAnyH_take (i := 10) (oi := _) (v := ?_) rfl (by kernel_rfl) (by kernel_rfl) (by kernel_rfl) (fun _ _ _ h => h) (Or.inl ⟨by rfl, ?_⟩) (by assumption) ?_
          rotate_left
          · intro w hSw; clear hSw; first | (go_simp; done) | (go_simp; with_reducible rfl)
          simp only [Act.put, List.getElem_toArray, List.getElem_cons_succ, List.getElem_cons_zero, List.setIfInBounds_toArray, List.set_cons_zero, List.set_cons_succ]
          refine wpAnyH_take (i := 11) (oi := _) (v := ?_) rfl (by kernel_rfl) (by kernel_rfl) (by kernel_rfl) (fun _ _ _ h => h) (Or.inl ⟨by rfl, ?_⟩) (by assumption) ?_
          rotate_left
          · intro w hSw; clear hSw; first | (go_simp; done) | (go_simp; with_reducible rfl)
          simp only [Act.put, List.getElem_toArray, List.getElem_cons_succ, List.getElem_cons_zero, List.setIfInBounds_toArray, List.set_cons_zero, List.set_cons_succ]
          refine wpAnyH_take (i := 12) (oi := _) (v := ?_) rfl (by kernel_rfl) (by kernel_rfl) (by kernel_rfl) (fun _ _ _ h => h) (Or.inl ⟨by rfl, ?_⟩) (by assumption) ?_
          rotate_left
          · intro w hSw; clear hSw; first | (go_simp; done) | (go_simp; with_reducible rfl)
          simp only [Act.put, List.getElem_toArray, List.getElem_cons_succ, List.getElem_cons_zero, List.setIfInBounds_toArray, List.set_cons_zero, List.set_cons_succ]
          refine wpAnyH_take (i := 13) (oi := _) (v := ?_) rfl (by kernel_rfl) (by kernel_rfl) (by kernel_rfl) (fun _ _ _ h => h) (Or.inl ⟨by rfl, ?_⟩) (by assumption) ?_
          rotate_left
          · intro w hSw; clear hSw; first | (go_simp; done) | (go_simp; with_reducible rfl)
          simp only [Act.put, List.getElem_toArray, List.getElem_cons_succ, List.getElem_cons_zero, List.setIfInBounds_toArray, List.set_cons_zero, List.set_cons_succ]
          refine wpAnyH_take (i := 14) (oi := _) (v := ?_) rfl (by kernel_rfl) (by kernel_rfl) (by kernel_rfl) (fun _ _ _ h => h) (Or.inl ⟨by rfl, ?_⟩) (by assumption) ?_
          rotate_left
          · intro w hSw; clear hSw; first | (go_simp; done) | (go_simp; with_reducible rfl)
          simp only [Act.put, List.getElem_toArray, List.getElem_cons_succ, List.getElem_cons_zero, List.setIfInBounds_toArray, List.set_cons_zero, List.set_cons_succ]
          try rw [wr1]
          refine wpAnyH_take (i := 15) (oi := _) (v := ?_) rfl (by kernel_rfl) (by kernel_rfl) (by kernel_rfl) (fun _ _ _ h => h) (Or.inl ⟨by rfl, ?_⟩) (by assumption) ?_
          rotate_left
          · intro w hSw; clear hSw; first | (go_simp; done) | (go_simp; with_reducible rfl)
          simp only [Act.put, List.getElem_toArray, List.getElem_cons_succ, List.getElem_cons_zero, List.setIfInBounds_toArray, List.set_cons_zero, List.set_cons_succ]
          refine wpAnyH_take (i := 16) (oi := _) (v := ?_) rfl (by kernel_rfl) (by kernel_rfl) (by kernel_rfl) (fun _ _ _ h => h) (Or.inl ⟨by rfl, ?_⟩) (by assumption) ?_
          rotate_left
          · intro w hSw; clear hSw; first | (go_simp; done) | (go_simp; with_reducible rfl)
          simp only [Act.put, List.getElem_toArray, List.getElem_cons_succ, List.getElem_cons_zero, List.setIfInBounds_toArray, List.set_cons_zero, List.set_cons_succ]
          refine wpAnyH_take (i := 17) (oi := _) (v := ?_) rfl (by kernel_rfl) (by kernel_rfl) (by kernel_rfl) (fun _ _ _ h => h) (Or.inl ⟨by rfl, ?_⟩) (by assumption) ?_
          rotate_left
          · intro w hSw; clear hSw; first | (go_simp; done) | (go_simp; with_reducible rfl)
          simp only [Act.put, List.getElem_toArray, List.getElem_cons_succ, List.getElem_cons_zero, List.setIfInBounds_toArray, List.set_cons_zero, List.set_cons_succ]
          refine wpAnyH_take (i := 18) (oi := _) (v := ?_) rfl (by kernel_rfl) (by kernel_rfl) (by kernel_rfl) (fun _ _ _ h => h) (Or.inl ⟨by rfl, ?_⟩) (by assumption) ?_
          rotate_left
          · intro w hSw; clear hSw; first | (go_simp; done) | (go_simp; with_reducible rfl)
          simp only [Act.put, List.getElem_toArray, List.getElem_cons_succ, List.getElem_cons_zero, List.setIfInBounds_toArray, List.set_cons_zero, List.set_cons_succ]
          refine wpAnyH_take (i := 19) (oi := _) (v := ?_) rfl (by kernel_rfl) (by kernel_rfl) (by kernel_rfl) (fun _ _ _ h => h) (Or.inl ⟨by rfl, ?_⟩) (by assumption) ?_
          rotate_left
          · intro w hSw; (try dsimp only at hSw); first | (go_simp; done) | (go_simp; with_reducible rfl)
          simp only [Act.put, List.getElem_toArray, List.getElem_cons_succ, List.getElem_cons_zero, List.setIfInBounds_toArray, List.set_cons_zero, List.set_cons_succ]
          refine wpAnyH_ready (rs := [20]) (by kernel_rfl) (by simp) ?_
          refine AllReadyH.cons (o := _) rfl (fun K hK => ?_) AllReadyH.nil
          go_simp
          refine (HP'.out.shield _).mono ?_
          rintro e z1 ⟨v6, rfl, ho6, hz1⟩
          obtain ⟨A6, c6, rfl, -⟩ := ho6.form
          go_wp2_with fail
          refine hK.out _ _ ⟨keep_cell hHeld.1 hz1, Below_then hHeld.2 hz1⟩ (fun hHeld => ?_)
          clear hK K
          try simp only [Act.put, List.getElem_toArray, List.getElem_cons_succ, List.getElem_cons_zero, List.setIfInBounds_toArray, List.set_cons_zero, List.set_cons_succ]
          refine wpAnyH_take (i := 21) (oi := _) (v := ?_) rfl (by kernel_rfl) (by kernel_rfl) (by kernel_rfl) (fun _ _ _ h => h) (Or.inl ⟨by rfl, ?_⟩) (by assumption) ?_
          rotate_left
          · intro w hSw; clear hSw; first | (have hfr := fieldReg A6 aT.length c6 w; go_simp; done) | (go_simp; done) | (have hfr := fieldReg A6 aT.length c6 w; go_simp; with_reducible rfl)
          simp only [Act.put, List.getElem_toArray, List.getElem_cons_succ, List.getElem_cons_zero, List.setIfInBounds_toArray, List.set_cons_zero, List.set_cons_succ]
          refine wpAnyH_ready (rs := [22]) (by kernel_rfl) (by simp) ?_
          refine AllReadyH.cons (o := _) rfl (fun K hK => ?_) AllReadyH.nil
          go_simp
          refine (rInts_same aT _ (ho4.below hHeld.2) ho6 (by omega)).mono ?_
          rintro e z2 ⟨rfl, hz2⟩
          go_wp2_with fail
          refine hK.out _ _ ⟨keep_cell hHeld.1 hz2, Below_then hHeld.2 hz2⟩ (fun hHeld => ?_)
          clear hK K
          try simp only [Act.put, List.getElem_toArray, List.getElem_cons_succ, List.getElem_cons_zero, List.setIfInBounds_toArray, List.set_cons_zero, List.set_cons_succ]
          refine wpAnyH_take (i := 23) (oi := _) (v := ?_) rfl (by kernel_rfl) (by kernel_rfl) (by kernel_rfl) (fun _ _ _ h => h) (Or.inl ⟨by rfl, ?_⟩) (by assumption) ?_
          rotate_left
          · intro w hSw; clear hSw; first | (go_simp; done) | (go_simp; with_reducible rfl)
          simp only [Act.put, List.getElem_toArray, List.getElem_cons_succ, List.getElem_cons_zero, List.setIfInBounds_toArray, List.set_cons_zero, List.set_cons_succ]
          refine wpAnyH_take (i := 24) (oi := _) (v := ?_) rfl (by kernel_rfl) (by kernel_rfl) (by kernel_rfl) (fun _ _ _ h => h) (Or.inl ⟨by rfl, ?_⟩) (by assumption) ?_
          rotate_left
          · intro w hSw; clear hSw; first | (go_simp; done) | (go_simp; with_reducible rfl)
          simp only [Act.put, List.getElem_toArray, List.getElem_cons_succ, List.getElem_cons_zero, List.setIfInBounds_toArray, List.set_cons_zero, List.set_cons_succ]
          refine wpAnyH_done (by kernel_rfl) ?_ _
          refine NoPanic.normal ?_
          clear khB40
          have hx := hHeld.2
          replace hT := Below_then hT hx
          replace hF := heap_keepB hF hx
          replace ho1 := ho1.below hx
          replace hB1 := heap_keepB hB1 hx
          replace ho2 := ho2.below hx
          replace hB2 := heap_keepB hB2 hx
          replace ho3 := ho3.below hx
          replace hB3 := heap_keepB hB3 hx
          replace ho4 := ho4.below hx
          replace hB4 := heap_keepB hB4 hx
          go_wp2_with fail
          refine (DrawLineTurns_any A0 n0 c0 _ (u0.below hT) hn).mono ?_
          rintro e y15 ⟨lx1, nx1, rfl, hln, hx⟩
          replace hT := Below_then hT hx
          clear hx
          obtain ⟨z, b1, KI, KS, hz⟩ := keyTurns lx1 nx1 hln.2
          have KI1 := Lib.hid KI
          have KS1 := Lib.hid KS
          clear KI KS hln
          go_wp2_with fail
          refine (KI1.out _).mono ?_
          rintro e y16 ⟨rfl, hx⟩
          replace hT := Below_then hT hx
          clear hx
          go_wp2_with fail
          refine (KS1.out _).mono ?_
          rintro e y17 ⟨rfl, hx⟩
          replace hT := Below_then hT hx
          clear hx
          cases b1
          · go_wp2
            go_ret
            exact ⟨rfl, hT⟩
          · have hz1 := hz rfl
            go_wp2
            go_ret
            exact ⟨rfl, hT⟩
        · obtain ⟨xs, lx, KI, KS⟩ : ∃ xs : List Int, xs.length ≤ 24 ∧ (∀ w, Calls Try.prog 27 #[.agg #[.int .i64 fd, .int .i64 fl, .int .i64 fp, .int .i64 fq], .int .i64 s] w (RegOk w xs false)) ∧ (∀ w, Calls Try.prog 28 #[.agg #[.int .i64 fd, .int .i64 fl, .int .i64 fp, .int .i64 fq], .int .i64 s] w (RegOk w xs false)) := ⟨[], by simp, fun w => FieldRegion_no _ _ _ _ _ w hv, fun w => specFieldRegion_no _ _ _ _ _ w hv⟩
          have KI2 := Lib.hid KI
          have KS2 := Lib.hid KS
          clear KI KS hv hs
          have khF0 := cell_of hF 0
          have khF1 := cell_of hF 1
          have khF2 := cell_of hF 2
          have khF3 := cell_of hF 3
          go_wp2_with fail
          clear khF0 khF1 khF2 khF3
          refine (KI2.out _).mono ?_
          rintro e y7 ⟨v1, rfl, ho1, hx⟩
          replace hT := Below_then hT hx
          replace hF := heap_keepB hF hx
          clear hx
          obtain ⟨A1, c1, rfl, -⟩ := ho1.form
          replace hT := Below_al hT (.cells #[.slice A1 xs.length c1] 28 (0, 0))
          replace hF := heap_keepA hF (.cells #[.slice A1 xs.length c1] 28 (0, 0))
          replace ho1 := ho1.alloc (.cells #[.slice A1 xs.length c1] 28 (0, 0))
          have hB1 : (y7.alloc (.cells #[.slice A1 xs.length c1] 28 (0, 0))).heap[y7.heap.size]? = some (.cells #[.slice A1 xs.length c1] 28 (0, 0)) := heap_hit _ _ _ rfl
          have khF0 := cell_of hF 0
          have khF1 := cell_of hF 1
          have khF2 := cell_of hF 2
          have khF3 := cell_of hF 3
          go_wp2_with fail
          clear khF0 khF1 khF2 khF3
          refine (KS2.out _).mono ?_
          rintro e y8 ⟨v2, rfl, ho2, hx⟩
          replace hT := Below_then hT hx
          replace hF := heap_keepB hF hx
          replace ho1 := ho1.below hx
          replace hB1 := heap_keepB hB1 hx
          clear hx
          obtain ⟨A2, c2, rfl, -⟩ := ho2.form
          replace hT := Below_al hT (.cells #[.slice A2 xs.length c2] 28 (0, 0))
          replace hF := heap_keepA hF (.cells #[.slice A2 xs.length c2] 28 (0, 0))
          replace ho1 := ho1.alloc (.cells #[.slice A2 xs.length c2] 28 (0, 0))
          replace hB1 := heap_keepA hB1 (.cells #[.slice A2 xs.length c2] 28 (0, 0))
          replace ho2 := ho2.alloc (.cells #[.slice A2 xs.length c2] 28 (0, 0))
          have hB2 : (y8.alloc (.cells #[.slice A2 xs.length c2] 28 (0, 0))).heap[y8.heap.size]? = some (.cells #[.slice A2 xs.length c2] 28 (0, 0)) := heap_hit _ _ _ rfl
          have khB10 := cell_of hB1 0
          have khB20 := cell_of hB2 0
          go_wp2_with fail
          clear khB10 khB20
          refine (rInts_same xs _ ho1 ho2 (by omega)).mono ?_
          rintro e y9 ⟨rfl, hx⟩
          replace hT := Below_then hT hx
          replace hF := heap_keepB hF hx
          replace ho1 := ho1.below hx
          replace hB1 := heap_keepB hB1 hx
          replace ho2 := ho2.below hx
          replace hB2 := heap_keepB hB2 hx
          clear hx
          go_wp2_with fail
          refine (DrawLineTurns_any A0 n0 c0 _ (u0.below hT) hn).mono ?_
          rintro e y10 ⟨lx1, nx1, rfl, hln, hx⟩
          replace hT := Below_then hT hx
          replace hF := heap_keepB hF hx
          replace ho1 := ho1.below hx
          replace hB1 := heap_keepB hB1 hx
          replace ho2 := ho2.below hx
          replace hB2 := heap_keepB hB2 hx
          clear hx
          obtain ⟨z, b1, KI, KS, hz⟩ := keyTurns lx1 nx1 hln.2
          have KI1 := Lib.hid KI
          have KS1 := Lib.hid KS
          clear KI KS hln
          go_wp2_with fail
          refine (KI1.out _).mono ?_
          rintro e y11 ⟨rfl, hx⟩
          replace hT := Below_then hT hx
          replace hF := heap_keepB hF hx
          replace ho1 := ho1.below hx
          replace hB1 := heap_keepB hB1 hx
          replace ho2 := ho2.below hx
          replace hB2 := heap_keepB hB2 hx
          clear hx
          go_wp2_with fail
          refine (KS1.out _).mono ?_
          rintro e y12 ⟨rfl, hx⟩
          replace hT := Below_then hT hx
          replace hF := heap_keepB hF hx
          replace ho1 := ho1.below hx
          replace hB1 := heap_keepB hB1 hx
          replace ho2 := ho2.below hx
          replace hB2 := heap_keepB hB2 hx
          clear hx
          cases b1
          · go_wp2
            go_ret
            exact ⟨rfl, hT⟩
          · have hz1 := hz rfl
            go_wp2
            go_ret
            exact ⟨rfl, hT⟩
  · have hn2 : decide (65536 < n0) = true := by simp; omega
    go_enter Try.func4, Try.ntmps4
    go_wp2_with fail
    refine (rBig_any A0 n0 c0 _).mono ?_
    rw [hn2]
    rintro e w1 ⟨rfl, rfl⟩
    go_wp2
    go_ret
    exact ⟨rfl, Below.refl _ _⟩

/-! ### The row's step: written by a program of mine (frame.py) after the kit's shell -/
theorem laidOut : laidOutB Try.prog = true := by kernel_rfl
set_option maxRecDepth 100000 in
theorem lifted (os : Os) (started : os.Started) (H : Type) (enc : TypeId × Value → H) :
    ReturnsInHanded {} Try.checked os 4 .any (Rows.fnLinesSpec.pre6 enc Try.prog Try.f4 Rows.fnLinesRow.domain false) (Rows.fnLinesSpec.post enc Try.prog Try.f4 false true false false) := by
  refine returnsInHanded_of_change (C := Try.checked) own started (by kernel_rfl) Try.func4
    (ChangeSpec.witness6 (enc := enc) (C := Try.checked) false ⟨#[], #[.slice none 0 0], []⟩ 8 (by kernel_rfl) (by kernel_rfl) (by kernel_rfl) (by kernel_rfl)) ?_
  intro W base args ds gs before hval0 hW hcnd _
  have hval : ∀ (j : Nat) t v, Try.f4.params[j]? = some t → args[j]? = some v → Value.okWide Try.prog W .any base t v := hval0
  have hW' := hW
  obtain ⟨p, q, hA0, hV, rfl, hfz, hnd⟩ := hW
  have hA : DataW.TrodAll enc Try.prog W 0 (fun _ => true) true Try.f4.params.toList args.toList ds p := hA0
  rw [Try.params4] at hA hval
  obtain ⟨v0, vs0, d0, ds0, p0, q0, hargs, rfl, rfl, h0, r0⟩ := trodAll_cons hA
  obtain ⟨rfl, rfl, rfl⟩ := trodAll_nil r0
  obtain rfl : args = #[v0] := by cases args; simp_all
  obtain ⟨rfl, rfl⟩ := trodVars_none hV
  have k0 := h0
  have lt0 : ∀ x ∈ p0, x.block < W.heap.size := by obtain ⟨m, hm⟩ := k0; exact DataW.trod_lt m _ _ _ hm
  obtain ⟨A0, n0, c0, rfl, u0⟩ := openCode (hval 0 22 v0 rfl rfl) h0
  clear hA0 hval0
  refine (walk W A0 n0 c0 u0).mono fun e W' ⟨he, bel⟩ => ?_
  subst he
  exact ⟨_, rfl, _, _, _, [], _, [], hW', trodAll_mk1 (shut_bool Try.underlying4 _), (trodAll_cons_mk (Below.trod laidOut (by kernel_rfl) (of_decide_eq_true (by kernel_rfl)) k0 bel lt0) trodAll_mk0), rfl, bel.frame _, fun h => by cases h⟩

theorem over : Rows.fnLinesRow.holds Try.pinned (OpenSpec.ofChange Rows.fnLinesSpec) :=
  OpenClaim.holds_of_wide 4 Try.f4 rfl rfl rfl rfl rfl rfl rfl ⟨rfl, rfl, rfl, rfl, rfl⟩ rfl rfl rfl rfl rfl (by kernel_rfl) Try.func4 (by kernel_rfl)
    (of_decide_eq_true (by kernel_rfl)) (by unfold Func.isWrapper; first | (rw [if_pos (by decide +kernel)]; kernel_rfl) | (rw [if_neg (by decide +kernel)]; exact ⟨rfl, rfl⟩))
    (fun os started H enc _ => lifted os started H enc)

theorem proved : Rows.FnLinesSaid := over
#print axioms proved

end Go.Proofs.Ytfmigkiliggdhaa.fnLines
