/- FnParts: for every code the parts of a division make up the shield and have no cell in common, and ordinaries lie on the shield. No condition. -/
import Derived.Test.YtfmigkiliggdhaaRows
import Derived.Test.YtfmigkiliggdhaaKeys
import Derived.Test.YtfmigkiliggdhaaCode
namespace Go.Proofs.Ytfmigkiliggdhaa.fnParts
open Go.ChangeShapes Go.WideShapes Go.ChangeAt Go.RowKit
set_option linter.unusedVariables false
set_option linter.unusedSimpArgs false
set_option maxHeartbeats 8000000 in
set_option maxRecDepth 20000 in
theorem walk (w : World) (A0 : Option Addr) (n0 c0 : Nat) (u0 : RdU w A0 n0) :
    Calls Try.prog 3 #[.slice A0 n0 c0] w fun e w' => e = .returned (.bool true) ∧ Below w.heap.size w w' := by
  by_cases hn : n0 ≤ 65536
  · have hn2 : decide (65536 < n0) = false := by simp; omega
    go_enter Try.func3, Try.ntmps3
    have hT := Below.refl w.heap.size w
    go_wp2_with fail
    refine (rBig_any A0 n0 c0 _).mono ?_
    rw [hn2]
    rintro e w1 ⟨rfl, rfl⟩
    clear hn2
    go_wp2_with fail
    refine (DrawPartRegion_any A0 n0 c0 _ (u0.below hT) hn).mono ?_
    rintro e y1 ⟨d, p, rfl, hdp, hx⟩
    replace hT := Below_then hT hx
    clear hx
    by_cases hv : (0 ≤ d ∧ d ≤ 7) ∧ (0 ≤ p ∧ p ≤ 1)
    · obtain ⟨xs, ys, aT, aN, HP, KI, KS, KJ⟩ := keyPart d p hv.1 hv.2
      have hp0 := hv.2.1
      have hp1 := hv.2.2
      have lx : xs.length ≤ 24 := Nat.le_of_eq HP.lx
      have ly : ys.length ≤ 24 := Nat.le_of_eq HP.ly
      have lT : aT.length ≤ 24 := Nat.le_of_eq HP.lT
      have lN : aN.length ≤ 24 := Nat.le_of_eq HP.lN
      have KI' := Lib.hid KI
      have KS' := Lib.hid KS
      have KJ' := Lib.hid KJ
      have HP' := Lib.hid HP
      clear KI KS KJ HP hv hdp
      go_wp2_with fail
      refine (KI'.out _).mono ?_
      rintro e y2 ⟨v1, rfl, ho1, hx⟩
      replace hT := Below_then hT hx
      clear hx
      obtain ⟨A1, c1, rfl, -⟩ := ho1.form
      replace hT := Below_al hT (.cells #[.slice A1 xs.length c1] 28 (0, 0))
      replace ho1 := ho1.alloc (.cells #[.slice A1 xs.length c1] 28 (0, 0))
      have hB1 : (y2.alloc (.cells #[.slice A1 xs.length c1] 28 (0, 0))).heap[y2.heap.size]? = some (.cells #[.slice A1 xs.length c1] 28 (0, 0)) := heap_hit _ _ _ rfl
      go_wp2_with fail
      refine (KS'.out _).mono ?_
      rintro e y3 ⟨v2, rfl, ho2, hx⟩
      replace hT := Below_then hT hx
      replace ho1 := ho1.below hx
      replace hB1 := heap_keepB hB1 hx
      clear hx
      obtain ⟨A2, c2, rfl, -⟩ := ho2.form
      replace hT := Below_al hT (.cells #[.slice A2 xs.length c2] 28 (0, 0))
      replace ho1 := ho1.alloc (.cells #[.slice A2 xs.length c2] 28 (0, 0))
      replace hB1 := heap_keepA hB1 (.cells #[.slice A2 xs.length c2] 28 (0, 0))
      replace ho2 := ho2.alloc (.cells #[.slice A2 xs.length c2] 28 (0, 0))
      have hB2 : (y3.alloc (.cells #[.slice A2 xs.length c2] 28 (0, 0))).heap[y3.heap.size]? = some (.cells #[.slice A2 xs.length c2] 28 (0, 0)) := heap_hit _ _ _ rfl
      have khB10 := cell_of hB1 0
      have khB20 := cell_of hB2 0
      go_wp2_with fail
      clear khB10 khB20
      refine (rInts_same xs _ ho1 ho2 (by omega)).mono ?_
      rintro e y4 ⟨rfl, hx⟩
      replace hT := Below_then hT hx
      replace ho1 := ho1.below hx
      replace hB1 := heap_keepB hB1 hx
      replace ho2 := ho2.below hx
      replace hB2 := heap_keepB hB2 hx
      clear hx
      go_wp2_with fail
      refine (KJ'.out _).mono ?_
      rintro e y5 ⟨v3, rfl, ho3, hx⟩
      replace hT := Below_then hT hx
      replace ho1 := ho1.below hx
      replace hB1 := heap_keepB hB1 hx
      replace ho2 := ho2.below hx
      replace hB2 := heap_keepB hB2 hx
      clear hx
      obtain ⟨A3, c3, rfl, -⟩ := ho3.form
      replace hT := Below_al hT (.cells #[.slice A3 ys.length c3] 28 (0, 0))
      replace ho1 := ho1.alloc (.cells #[.slice A3 ys.length c3] 28 (0, 0))
      replace hB1 := heap_keepA hB1 (.cells #[.slice A3 ys.length c3] 28 (0, 0))
      replace ho2 := ho2.alloc (.cells #[.slice A3 ys.length c3] 28 (0, 0))
      replace hB2 := heap_keepA hB2 (.cells #[.slice A3 ys.length c3] 28 (0, 0))
      replace ho3 := ho3.alloc (.cells #[.slice A3 ys.length c3] 28 (0, 0))
      have hB3 : (y5.alloc (.cells #[.slice A3 ys.length c3] 28 (0, 0))).heap[y5.heap.size]? = some (.cells #[.slice A3 ys.length c3] 28 (0, 0)) := heap_hit _ _ _ rfl
      have r1 := reads ho1
      have r3 := reads ho3
      have khB10 := cell_of hB1 0
      have khB30 := cell_of hB3 0
      go_wp2_with fail
      clear khB10 khB30
      refine (HP'.out.union _ _ _ _ _ r1 r3).mono ?_
      rintro e y6 ⟨v4, rfl, ho4, hx⟩
      replace hT := Below_then hT hx
      replace ho1 := ho1.below hx
      replace hB1 := heap_keepB hB1 hx
      replace ho2 := ho2.below hx
      replace hB2 := heap_keepB hB2 hx
      replace ho3 := ho3.below hx
      replace hB3 := heap_keepB hB3 hx
      clear hx
      obtain ⟨A4, c4, rfl, -⟩ := ho4.form
      replace hT := Below_al hT (.cells #[.slice A4 aT.length c4] 28 (0, 0))
      replace ho1 := ho1.alloc (.cells #[.slice A4 aT.length c4] 28 (0, 0))
      replace hB1 := heap_keepA hB1 (.cells #[.slice A4 aT.length c4] 28 (0, 0))
      replace ho2 := ho2.alloc (.cells #[.slice A4 aT.length c4] 28 (0, 0))
      replace hB2 := heap_keepA hB2 (.cells #[.slice A4 aT.length c4] 28 (0, 0))
      replace ho3 := ho3.alloc (.cells #[.slice A4 aT.length c4] 28 (0, 0))
      replace hB3 := heap_keepA hB3 (.cells #[.slice A4 aT.length c4] 28 (0, 0))
      replace ho4 := ho4.alloc (.cells #[.slice A4 aT.length c4] 28 (0, 0))
      have hB4 : (y6.alloc (.cells #[.slice A4 aT.length c4] 28 (0, 0))).heap[y6.heap.size]? = some (.cells #[.slice A4 aT.length c4] 28 (0, 0)) := heap_hit _ _ _ rfl
      clear r1 r3
      have r1 := reads ho1
      have r3 := reads ho3
      have khB10 := cell_of hB1 0
      have khB30 := cell_of hB3 0
      go_wp2_with fail
      clear khB10 khB30
      refine (HP'.out.inter _ _ _ _ _ r1 r3).mono ?_
      rintro e y7 ⟨v5, rfl, ho5, hx⟩
      replace hT := Below_then hT hx
      replace ho1 := ho1.below hx
      replace hB1 := heap_keepB hB1 hx
      replace ho2 := ho2.below hx
      replace hB2 := heap_keepB hB2 hx
      replace ho3 := ho3.below hx
      replace hB3 := heap_keepB hB3 hx
      replace ho4 := ho4.below hx
      replace hB4 := heap_keepB hB4 hx
      clear hx
      obtain ⟨A5, c5, rfl, -⟩ := ho5.form
      replace hT := Below_al hT (.cells #[.slice A5 aN.length c5] 28 (0, 0))
      replace ho1 := ho1.alloc (.cells #[.slice A5 aN.length c5] 28 (0, 0))
      replace hB1 := heap_keepA hB1 (.cells #[.slice A5 aN.length c5] 28 (0, 0))
      replace ho2 := ho2.alloc (.cells #[.slice A5 aN.length c5] 28 (0, 0))
      replace hB2 := heap_keepA hB2 (.cells #[.slice A5 aN.length c5] 28 (0, 0))
      replace ho3 := ho3.alloc (.cells #[.slice A5 aN.length c5] 28 (0, 0))
      replace hB3 := heap_keepA hB3 (.cells #[.slice A5 aN.length c5] 28 (0, 0))
      replace ho4 := ho4.alloc (.cells #[.slice A5 aN.length c5] 28 (0, 0))
      replace hB4 := heap_keepA hB4 (.cells #[.slice A5 aN.length c5] 28 (0, 0))
      replace ho5 := ho5.alloc (.cells #[.slice A5 aN.length c5] 28 (0, 0))
      have hB5 : (y7.alloc (.cells #[.slice A5 aN.length c5] 28 (0, 0))).heap[y7.heap.size]? = some (.cells #[.slice A5 aN.length c5] 28 (0, 0)) := heap_hit _ _ _ rfl
      clear r1 r3
      have r5 := reads ho5
      have khB50 := cell_of hB5 0
      go_wp2_with fail
      clear khB50
      refine (HP'.out.areaN _ _ _ r5).mono ?_
      rintro e y8 ⟨rfl, hx⟩
      replace hT := Below_then hT hx
      replace ho1 := ho1.below hx
      replace hB1 := heap_keepB hB1 hx
      replace ho2 := ho2.below hx
      replace hB2 := heap_keepB hB2 hx
      replace ho3 := ho3.below hx
      replace hB3 := heap_keepB hB3 hx
      replace ho4 := ho4.below hx
      replace hB4 := heap_keepB hB4 hx
      replace ho5 := ho5.below hx
      replace hB5 := heap_keepB hB5 hx
      clear hx
      clear r5
      go_wp2_with fail
      have khB40 := cell_of hB4 0
      refine wp_region_noPanic ?_
      refine wp_region_held_drew (S := (fun w' => w'.cell? ⟨y6.heap.size, 0, none⟩ = some (.slice A4 aT.length c4 : Value) ∧ Below y8.heap.size y8 w')) (by kernel_rfl) ⟨khB40, (Below.refl _ _).drew⟩ (fun hHeld => ?_)
      refine wpAnyH_take (i := 0) (oi := _) (v := ?_) rfl (by kernel_rfl) (by kernel_rfl) (by kernel_rfl) (fun _ _ _ h => h) (Or.inl ⟨by rfl, ?_⟩) (by assumption) ?_
      rotate_left
      · intro w hSw; clear hSw; first | (go_simp; done) | (go_simp; with_reducible rfl)
      simp only [Act.put, List.getElem_toArray, List.getElem_cons_succ, List.getElem_cons_zero, List.setIfInBounds_toArray, List.set_cons_zero, List.set_cons_succ]
      refine wpAnyH_take (i := 1) (oi := _) (v := ?_) rfl (by kernel_rfl) (by kernel_rfl) (by kernel_rfl) (fun _ _ _ h => h) (Or.inl ⟨by rfl, ?_⟩) (by assumption) ?_
      rotate_left
      · intro w hSw; clear hSw; first | (go_simp; done) | (go_simp; with_reducible rfl)
      simp only [Act.put, List.getElem_toArray, List.getElem_cons_succ, List.getElem_cons_zero, List.setIfInBounds_toArray, List.set_cons_zero, List.set_cons_succ]
      refine wpAnyH_take (i := 2) (oi := _) (v := ?_) rfl (by kernel_rfl) (by kernel_rfl) (by kernel_rfl) (fun _ _ _ h => h) (Or.inl ⟨by rfl, ?_⟩) (by assumption) ?_
      rotate_left
      · intro w hSw; clear hSw; first | (go_simp; done) | (go_simp; with_reducible rfl)
      simp only [Act.put, List.getElem_toArray, List.getElem_cons_succ, List.getElem_cons_zero, List.setIfInBounds_toArray, List.set_cons_zero, List.set_cons_succ]
      refine wpAnyH_take (i := 3) (oi := _) (v := ?_) rfl (by kernel_rfl) (by kernel_rfl) (by kernel_rfl) (fun _ _ _ h => h) (Or.inl ⟨by rfl, ?_⟩) (by assumption) ?_
      rotate_left
      · intro w hSw; clear hSw; first | (go_simp; done) | (go_simp; with_reducible rfl)
      simp only [Act.put, List.getElem_toArray, List.getElem_cons_succ, List.getElem_cons_zero, List.setIfInBounds_toArray, List.set_cons_zero, List.set_cons_succ]
      refine wpAnyH_take (i := 4) (oi := _) (v := ?_) rfl (by kernel_rfl) (by kernel_rfl) (by kernel_rfl) (fun _ _ _ h => h) (Or.inl ⟨by rfl, ?_⟩) (by assumption) ?_
      rotate_left
      · intro w hSw; clear hSw; first | (go_simp; done) | (go_simp; with_reducible rfl)
      simp only [Act.put, List.getElem_toArray, List.getElem_cons_succ, List.getElem_cons_zero, List.setIfInBounds_toArray, List.set_cons_zero, List.set_cons_succ]
      refine wpAnyH_take (i := 5) (oi := _) (v := ?_) rfl (by kernel_rfl) (by kernel_rfl) (by kernel_rfl) (fun _ _ _ h => h) (Or.inl ⟨by rfl, ?_⟩) (by assumption) ?_
      rotate_left
      · intro w hSw; clear hSw; first | (go_simp; done) | (go_simp; with_reducible rfl)
      simp only [Act.put, List.getElem_toArray, List.getElem_cons_succ, List.getElem_cons_zero, List.setIfInBounds_toArray, List.set_cons_zero, List.set_cons_succ]
      refine wpAnyH_take (i := 6) (oi := _) (v := ?_) rfl (by kernel_rfl) (by kernel_rfl) (by kernel_rfl) (fun _ _ _ h => h) (Or.inl ⟨by rfl, ?_⟩) (by assumption) ?_
      rotate_left
      · intro w hSw; clear hSw; first | (go_simp; done) | (go_simp; with_reducible rfl)
      simp only [Act.put, List.getElem_toArray, List.getElem_cons_succ, List.getElem_cons_zero, List.setIfInBounds_toArray, List.set_cons_zero, List.set_cons_succ]
      refine wpAnyH_take (i := 7) (oi := _) (v := ?_) rfl (by kernel_rfl) (by kernel_rfl) (by kernel_rfl) (fun _ _ _ h => h) (Or.inl ⟨by rfl, ?_⟩) (by assumption) ?_
      rotate_left
      · intro w hSw; clear hSw; first | (go_simp; done) | (go_simp; with_reducible rfl)
      simp only [Act.put, List.getElem_toArray, List.getElem_cons_succ, List.getElem_cons_zero, List.setIfInBounds_toArray, List.set_cons_zero, List.set_cons_succ]
      refine wpAnyH_take (i := 8) (oi := _) (v := ?_) rfl (by kernel_rfl) (by kernel_rfl) (by kernel_rfl) (fun _ _ _ h => h) (Or.inl ⟨by rfl, ?_⟩) (by assumption) ?_
      rotate_left
      · intro w hSw; clear hSw; first | (go_simp; done) | (go_simp; with_reducible rfl)
      simp only [Act.put, List.getElem_toArray, List.getElem_cons_succ, List.getElem_cons_zero, List.setIfInBounds_toArray, List.set_cons_zero, List.set_cons_succ]
      refine wpAnyH_take (i := 9) (oi := _) (v := ?_) rfl (by kernel_rfl) (by kernel_rfl) (by kernel_rfl) (fun _ _ _ h => h) (Or.inl ⟨by rfl, ?_⟩) (by assumption) ?_
      rotate_left
      · intro w hSw; clear hSw; first | (go_simp; done) | (go_simp; with_reducible rfl)
      simp only [Act.put, List.getElem_toArray, List.getElem_cons_succ, List.getElem_cons_zero, List.setIfInBounds_toArray, List.set_cons_zero, List.set_cons_succ]
      refine wpAnyH_take (i := 10) (oi := _) (v := ?_) rfl (by kernel_rfl) (by kernel_rfl) (by kernel_rfl) (fun _ _ _ h => h) (Or.inl ⟨by rfl, ?_⟩) (by assumption) ?_
      rotate_left
      · intro w hSw; clear hSw; first | (go_simp; done) | (go_simp; with_reducible rfl)
      simp only [Act.put, List.getElem_toArray, List.getElem_cons_succ, List.getElem_cons_zero, List.setIfInBounds_toArray, List.set_cons_zero, List.set_cons_succ]
      refine wpAnyH_take (i := 11) (oi := _) (v := ?_) rfl (by kernel_rfl) (by kernel_rfl) (by kernel_rfl) (fun _ _ _ h => h) (Or.inl ⟨by rfl, ?_⟩) (by assumption) ?_
      rotate_left
      · intro w hSw; clear hSw; first | (go_simp; done) | (go_simp; with_reducible rfl)
      simp only [Act.put, List.getElem_toArray, List.getElem_cons_succ, List.getElem_cons_zero, List.setIfInBounds_toArray, List.set_cons_zero, List.set_cons_succ]
      refine wpAnyH_take (i := 12) (oi := _) (v := ?_) rfl (by kernel_rfl) (by kernel_rfl) (by kernel_rfl) (fun _ _ _ h => h) (Or.inl ⟨by rfl, ?_⟩) (by assumption) ?_
      rotate_left
      · intro w hSw; clear hSw; first | (go_simp; done) | (go_simp; with_reducible rfl)
      simp only [Act.put, List.getElem_toArray, List.getElem_cons_succ, List.getElem_cons_zero, List.setIfInBounds_toArray, List.set_cons_zero, List.set_cons_succ]
      refine wpAnyH_take (i := 13) (oi := _) (v := ?_) rfl (by kernel_rfl) (by kernel_rfl) (by kernel_rfl) (fun _ _ _ h => h) (Or.inl ⟨by rfl, ?_⟩) (by assumption) ?_
      rotate_left
      · intro w hSw; clear hSw; first | (go_simp; done) | (go_simp; with_reducible rfl)
      simp only [Act.put, List.getElem_toArray, List.getElem_cons_succ, List.getElem_cons_zero, List.setIfInBounds_toArray, List.set_cons_zero, List.set_cons_succ]
      refine wpAnyH_take (i := 14) (oi := _) (v := ?_) rfl (by kernel_rfl) (by kernel_rfl) (by kernel_rfl) (fun _ _ _ h => h) (Or.inl ⟨by rfl, ?_⟩) (by assumption) ?_
      rotate_left
      · intro w hSw; clear hSw; first | (go_simp; done) | (go_simp; with_reducible rfl)
      simp only [Act.put, List.getElem_toArray, List.getElem_cons_succ, List.getElem_cons_zero, List.setIfInBounds_toArray, List.set_cons_zero, List.set_cons_succ]
      refine wpAnyH_take (i := 15) (oi := _) (v := ?_) rfl (by kernel_rfl) (by kernel_rfl) (by kernel_rfl) (fun _ _ _ h => h) (Or.inl ⟨by rfl, ?_⟩) (by assumption) ?_
      rotate_left
      · intro w hSw; clear hSw; first | (go_simp; done) | (go_simp; with_reducible rfl)
      simp only [Act.put, List.getElem_toArray, List.getElem_cons_succ, List.getElem_cons_zero, List.setIfInBounds_toArray, List.set_cons_zero, List.set_cons_succ]
      refine wpAnyH_take (i := 16) (oi := _) (v := ?_) rfl (by kernel_rfl) (by kernel_rfl) (by kernel_rfl) (fun _ _ _ h => h) (Or.inl ⟨by rfl, ?_⟩) (by assumption) ?_
      rotate_left
      · intro w hSw; clear hSw; first | (go_simp; done) | (go_simp; with_reducible rfl)
      simp only [Act.put, List.getElem_toArray, List.getElem_cons_succ, List.getElem_cons_zero, List.setIfInBounds_toArray, List.set_cons_zero, List.set_cons_succ]
      refine wpAnyH_take (i := 17) (oi := _) (v := ?_) rfl (by kernel_rfl) (by kernel_rfl) (by kernel_rfl) (fun _ _ _ h => h) (Or.inl ⟨by rfl, ?_⟩) (by assumption) ?_
      rotate_left
      · intro w hSw; clear hSw; first | (go_simp; done) | (go_simp; with_reducible rfl)
      simp only [Act.put, List.getElem_toArray, List.getElem_cons_succ, List.getElem_cons_zero, List.setIfInBounds_toArray, List.set_cons_zero, List.set_cons_succ]
      refine wpAnyH_take (i := 18) (oi := _) (v := ?_) rfl (by kernel_rfl) (by kernel_rfl) (by kernel_rfl) (fun _ _ _ h => h) (Or.inl ⟨by rfl, ?_⟩) (by assumption) ?_
      rotate_left
      · intro w hSw; clear hSw; first | (go_simp; done) | (go_simp; with_reducible rfl)
      simp only [Act.put, List.getElem_toArray, List.getElem_cons_succ, List.getElem_cons_zero, List.setIfInBounds_toArray, List.set_cons_zero, List.set_cons_succ]
      refine wpAnyH_take (i := 19) (oi := _) (v := ?_) rfl (by kernel_rfl) (by kernel_rfl) (by kernel_rfl) (fun _ _ _ h => h) (Or.inl ⟨by rfl, ?_⟩) (by assumption) ?_
      rotate_left
      · intro w hSw; clear hSw; first | (go_simp; done) | (go_simp; with_reducible rfl)
      simp only [Act.put, List.getElem_toArray, List.getElem_cons_succ, List.getElem_cons_zero, List.setIfInBounds_toArray, List.set_cons_zero, List.set_cons_succ]
      refine wpAnyH_take (i := 20) (oi := _) (v := ?_) rfl (by kernel_rfl) (by kernel_rfl) (by kernel_rfl) (fun _ _ _ h => h) (Or.inl ⟨by rfl, ?_⟩) (by assumption) ?_
      rotate_left
      · intro w hSw; (try dsimp only at hSw); first | (go_simp; done) | (go_simp; with_reducible rfl)
      simp only [Act.put, List.getElem_toArray, List.getElem_cons_succ, List.getElem_cons_zero, List.setIfInBounds_toArray, List.set_cons_zero, List.set_cons_succ]
      refine wpAnyH_ready (rs := [21]) (by kernel_rfl) (by simp) ?_
      refine AllReadyH.cons (o := _) rfl (fun K hK => ?_) AllReadyH.nil
      go_simp
      refine (HP'.out.shield _).mono ?_
      rintro e z1 ⟨v6, rfl, ho6, hz1⟩
      obtain ⟨A6, c6, rfl, -⟩ := ho6.form
      go_wp2_with fail
      refine hK.out _ _ ⟨keep_cell hHeld.1 hz1, Below_then hHeld.2 hz1⟩ (fun hHeld => ?_)
      clear hK K
      try simp only [Act.put, List.getElem_toArray, List.getElem_cons_succ, List.getElem_cons_zero, List.setIfInBounds_toArray, List.set_cons_zero, List.set_cons_succ]
      refine wpAnyH_take (i := 22) (oi := _) (v := ?_) rfl (by kernel_rfl) (by kernel_rfl) (by kernel_rfl) (fun _ _ _ h => h) (Or.inl ⟨by rfl, ?_⟩) (by assumption) ?_
      rotate_left
      · intro w hSw; clear hSw; first | (have hfr := fieldReg A6 aT.length c6 w; go_simp; done) | (go_simp; done) | (have hfr := fieldReg A6 aT.length c6 w; go_simp; with_reducible rfl)
      simp only [Act.put, List.getElem_toArray, List.getElem_cons_succ, List.getElem_cons_zero, List.setIfInBounds_toArray, List.set_cons_zero, List.set_cons_succ]
      refine wpAnyH_ready (rs := [23]) (by kernel_rfl) (by simp) ?_
      refine AllReadyH.cons (o := _) rfl (fun K hK => ?_) AllReadyH.nil
      go_simp
      refine (rInts_same aT _ (ho4.below hHeld.2) ho6 (by omega)).mono ?_
      rintro e z2 ⟨rfl, hz2⟩
      go_wp2_with fail
      refine hK.out _ _ ⟨keep_cell hHeld.1 hz2, Below_then hHeld.2 hz2⟩ (fun hHeld => ?_)
      clear hK K
      try simp only [Act.put, List.getElem_toArray, List.getElem_cons_succ, List.getElem_cons_zero, List.setIfInBounds_toArray, List.set_cons_zero, List.set_cons_succ]
      refine wpAnyH_take (i := 24) (oi := _) (v := ?_) rfl (by kernel_rfl) (by kernel_rfl) (by kernel_rfl) (fun _ _ _ h => h) (Or.inl ⟨by rfl, ?_⟩) (by assumption) ?_
      rotate_left
      · intro w hSw; clear hSw; first | (go_simp; done) | (go_simp; with_reducible rfl)
      simp only [Act.put, List.getElem_toArray, List.getElem_cons_succ, List.getElem_cons_zero, List.setIfInBounds_toArray, List.set_cons_zero, List.set_cons_succ]
      refine wpAnyH_take (i := 25) (oi := _) (v := ?_) rfl (by kernel_rfl) (by kernel_rfl) (by kernel_rfl) (fun _ _ _ h => h) (Or.inl ⟨by rfl, ?_⟩) (by assumption) ?_
      rotate_left
      · intro w hSw; clear hSw; first | (go_simp; done) | (go_simp; with_reducible rfl)
      simp only [Act.put, List.getElem_toArray, List.getElem_cons_succ, List.getElem_cons_zero, List.setIfInBounds_toArray, List.set_cons_zero, List.set_cons_succ]
      refine wpAnyH_done (by kernel_rfl) ?_ _
      refine NoPanic.normal ?_
      clear khB40
      have hx := hHeld.2
      replace hT := Below_then hT hx
      replace ho1 := ho1.below hx
      replace hB1 := heap_keepB hB1 hx
      replace ho2 := ho2.below hx
      replace hB2 := heap_keepB hB2 hx
      replace ho3 := ho3.below hx
      replace hB3 := heap_keepB hB3 hx
      replace ho4 := ho4.below hx
      replace hB4 := heap_keepB hB4 hx
      replace ho5 := ho5.below hx
      replace hB5 := heap_keepB hB5 hx
      obtain ⟨z3, hz3⟩ : ∃ z, z = z2 := ⟨_, rfl⟩
      subst hz3
      go_wp2_with fail
      go_wp2_with fail
      refine (DrawOrdinaryCells_any A0 n0 c0 _ (u0.below hT) hn).mono ?_
      rintro e y9 ⟨o, rfl, -, hx⟩
      replace hT := Below_then hT hx
      clear hx
      obtain ⟨zo, ok, hzo, KS, KI, KV⟩ := keyOrd o
      have KS' := Lib.hid KS
      have KI' := Lib.hid KI
      have KV' := Lib.hid KV
      clear KS KI KV
      go_wp2_with fail
      refine (KI'.out _).mono ?_
      rintro e y10 ⟨v7, rfl, ho7, hx⟩
      replace hT := Below_then hT hx
      clear hx
      obtain ⟨A7, c7, rfl, -⟩ := ho7.form
      replace hT := Below_al hT (.cells #[.slice A7 zo.length c7] 28 (0, 0))
      replace ho7 := ho7.alloc (.cells #[.slice A7 zo.length c7] 28 (0, 0))
      have hB7 : (y10.alloc (.cells #[.slice A7 zo.length c7] 28 (0, 0))).heap[y10.heap.size]? = some (.cells #[.slice A7 zo.length c7] 28 (0, 0)) := heap_hit _ _ _ rfl
      go_wp2_with fail
      refine (KS'.out _).mono ?_
      rintro e y11 ⟨v8, rfl, ho8, hx⟩
      replace hT := Below_then hT hx
      replace ho7 := ho7.below hx
      replace hB7 := heap_keepB hB7 hx
      clear hx
      obtain ⟨A8, c8, rfl, -⟩ := ho8.form
      replace hT := Below_al hT (.cells #[.slice A8 zo.length c8] 28 (0, 0))
      replace ho7 := ho7.alloc (.cells #[.slice A8 zo.length c8] 28 (0, 0))
      replace hB7 := heap_keepA hB7 (.cells #[.slice A8 zo.length c8] 28 (0, 0))
      replace ho8 := ho8.alloc (.cells #[.slice A8 zo.length c8] 28 (0, 0))
      have hB8 : (y11.alloc (.cells #[.slice A8 zo.length c8] 28 (0, 0))).heap[y11.heap.size]? = some (.cells #[.slice A8 zo.length c8] 28 (0, 0)) := heap_hit _ _ _ rfl
      cases ok
      · have khB70 := cell_of hB7 0
        have khB80 := cell_of hB8 0
        go_wp2_with fail
        clear khB70 khB80
        refine (rInts_same zo _ ho7 ho8 (by omega)).mono ?_
        rintro e y12 ⟨rfl, hx⟩
        replace hT := Below_then hT hx
        replace ho7 := ho7.below hx
        replace hB7 := heap_keepB hB7 hx
        replace ho8 := ho8.below hx
        replace hB8 := heap_keepB hB8 hx
        clear hx
        go_wp2_with fail
        refine (DrawInShield_any A0 n0 c0 _ (u0.below hT) hn).mono ?_
        rintro e y13 ⟨x, y, rfl, -, hx⟩
        replace hT := Below_then hT hx
        replace ho7 := ho7.below hx
        replace hB7 := heap_keepB hB7 hx
        replace ho8 := ho8.below hx
        replace hB8 := heap_keepB hB8 hx
        clear hx
        generalize hs : inSh x y = sx
        have IS : ∀ w, Calls Try.prog 19 #[.int .i64 x, .int .i64 y] w fun e w' => e = .returned (.bool sx) ∧ w = w' := fun w => by rw [← hs]; exact InShield_any x y w
        have SS : ∀ w, Calls Try.prog 20 #[.int .i64 x, .int .i64 y] w fun e w' => e = .returned (.bool sx) ∧ w = w' := fun w => by rw [← hs]; exact specInShield_any x y w
        have IS' := Lib.hid IS
        have SS' := Lib.hid SS
        clear IS SS hs
        go_wp2_with fail
        refine (IS'.out _).mono ?_
        rintro e w1 ⟨rfl, rfl⟩
        go_wp2_with fail
        refine (SS'.out _).mono ?_
        rintro e w1 ⟨rfl, rfl⟩
        cases sx <;> (go_wp2; go_ret; exact ⟨rfl, hT⟩)
      · have khB70 := cell_of hB7 0
        have khB80 := cell_of hB8 0
        go_wp2_with fail
        clear khB70 khB80
        refine (rInts_same zo _ ho7 ho8 (by omega)).mono ?_
        rintro e y12 ⟨rfl, hx⟩
        replace hT := Below_then hT hx
        replace ho7 := ho7.below hx
        replace hB7 := heap_keepB hB7 hx
        replace ho8 := ho8.below hx
        replace hB8 := heap_keepB hB8 hx
        clear hx
        have r7 := reads ho7
        have khB70 := cell_of hB7 0
        go_wp2_with fail
        clear khB70
        refine (KV'.out (by simp) _ _ _ r7).mono ?_
        rintro e y13 ⟨rfl, hx⟩
        replace hT := Below_then hT hx
        replace ho7 := ho7.below hx
        replace hB7 := heap_keepB hB7 hx
        replace ho8 := ho8.below hx
        replace hB8 := heap_keepB hB8 hx
        clear hx
        go_wp2_with fail
        refine (DrawInShield_any A0 n0 c0 _ (u0.below hT) hn).mono ?_
        rintro e y14 ⟨x, y, rfl, -, hx⟩
        replace hT := Below_then hT hx
        replace ho7 := ho7.below hx
        replace hB7 := heap_keepB hB7 hx
        replace ho8 := ho8.below hx
        replace hB8 := heap_keepB hB8 hx
        clear hx
        generalize hs : inSh x y = sx
        have IS : ∀ w, Calls Try.prog 19 #[.int .i64 x, .int .i64 y] w fun e w' => e = .returned (.bool sx) ∧ w = w' := fun w => by rw [← hs]; exact InShield_any x y w
        have SS : ∀ w, Calls Try.prog 20 #[.int .i64 x, .int .i64 y] w fun e w' => e = .returned (.bool sx) ∧ w = w' := fun w => by rw [← hs]; exact specInShield_any x y w
        have IS' := Lib.hid IS
        have SS' := Lib.hid SS
        clear IS SS hs
        go_wp2_with fail
        refine (IS'.out _).mono ?_
        rintro e w1 ⟨rfl, rfl⟩
        go_wp2_with fail
        refine (SS'.out _).mono ?_
        rintro e w1 ⟨rfl, rfl⟩
        cases sx <;> (go_wp2; go_ret; exact ⟨rfl, hT⟩)
    · obtain ⟨xs, lx, KI, KS⟩ : ∃ xs : List Int, xs.length ≤ 24 ∧ (∀ w, Calls Try.prog 8 #[.int .i64 d, .int .i64 p] w (RegOk w xs false)) ∧ (∀ w, Calls Try.prog 9 #[.int .i64 d, .int .i64 p] w (RegOk w xs false)) := ⟨[], by simp, fun w => PartRegion_no d p w hv, fun w => specPartRegion_no d p w hv⟩
      have KI' := Lib.hid KI
      have KS' := Lib.hid KS
      clear KI KS hv hdp
      go_wp2_with fail
      refine (KI'.out _).mono ?_
      rintro e y2 ⟨v1, rfl, ho1, hx⟩
      replace hT := Below_then hT hx
      clear hx
      obtain ⟨A1, c1, rfl, -⟩ := ho1.form
      replace hT := Below_al hT (.cells #[.slice A1 xs.length c1] 28 (0, 0))
      replace ho1 := ho1.alloc (.cells #[.slice A1 xs.length c1] 28 (0, 0))
      have hB1 : (y2.alloc (.cells #[.slice A1 xs.length c1] 28 (0, 0))).heap[y2.heap.size]? = some (.cells #[.slice A1 xs.length c1] 28 (0, 0)) := heap_hit _ _ _ rfl
      go_wp2_with fail
      refine (KS'.out _).mono ?_
      rintro e y3 ⟨v2, rfl, ho2, hx⟩
      replace hT := Below_then hT hx
      replace ho1 := ho1.below hx
      replace hB1 := heap_keepB hB1 hx
      clear hx
      obtain ⟨A2, c2, rfl, -⟩ := ho2.form
      replace hT := Below_al hT (.cells #[.slice A2 xs.length c2] 28 (0, 0))
      replace ho1 := ho1.alloc (.cells #[.slice A2 xs.length c2] 28 (0, 0))
      replace hB1 := heap_keepA hB1 (.cells #[.slice A2 xs.length c2] 28 (0, 0))
      replace ho2 := ho2.alloc (.cells #[.slice A2 xs.length c2] 28 (0, 0))
      have hB2 : (y3.alloc (.cells #[.slice A2 xs.length c2] 28 (0, 0))).heap[y3.heap.size]? = some (.cells #[.slice A2 xs.length c2] 28 (0, 0)) := heap_hit _ _ _ rfl
      have khB10 := cell_of hB1 0
      have khB20 := cell_of hB2 0
      go_wp2_with fail
      clear khB10 khB20
      refine (rInts_same xs _ ho1 ho2 (by omega)).mono ?_
      rintro e y4 ⟨rfl, hx⟩
      replace hT := Below_then hT hx
      replace ho1 := ho1.below hx
      replace hB1 := heap_keepB hB1 hx
      replace ho2 := ho2.below hx
      replace hB2 := heap_keepB hB2 hx
      clear hx
      go_wp2_with fail
      refine (DrawOrdinaryCells_any A0 n0 c0 _ (u0.below hT) hn).mono ?_
      rintro e y5 ⟨o, rfl, -, hx⟩
      replace hT := Below_then hT hx
      replace ho1 := ho1.below hx
      replace hB1 := heap_keepB hB1 hx
      replace ho2 := ho2.below hx
      replace hB2 := heap_keepB hB2 hx
      clear hx
      obtain ⟨zo, ok, hzo, KS, KI, KV⟩ := keyOrd o
      have KS' := Lib.hid KS
      have KI' := Lib.hid KI
      have KV' := Lib.hid KV
      clear KS KI KV
      go_wp2_with fail
      refine (KI'.out _).mono ?_
      rintro e y6 ⟨v7, rfl, ho7, hx⟩
      replace hT := Below_then hT hx
      replace ho1 := ho1.below hx
      replace hB1 := heap_keepB hB1 hx
      replace ho2 := ho2.below hx
      replace hB2 := heap_keepB hB2 hx
      clear hx
      obtain ⟨A7, c7, rfl, -⟩ := ho7.form
      replace hT := Below_al hT (.cells #[.slice A7 zo.length c7] 28 (0, 0))
      replace ho1 := ho1.alloc (.cells #[.slice A7 zo.length c7] 28 (0, 0))
      replace hB1 := heap_keepA hB1 (.cells #[.slice A7 zo.length c7] 28 (0, 0))
      replace ho2 := ho2.alloc (.cells #[.slice A7 zo.length c7] 28 (0, 0))
      replace hB2 := heap_keepA hB2 (.cells #[.slice A7 zo.length c7] 28 (0, 0))
      replace ho7 := ho7.alloc (.cells #[.slice A7 zo.length c7] 28 (0, 0))
      have hB7 : (y6.alloc (.cells #[.slice A7 zo.length c7] 28 (0, 0))).heap[y6.heap.size]? = some (.cells #[.slice A7 zo.length c7] 28 (0, 0)) := heap_hit _ _ _ rfl
      go_wp2_with fail
      refine (KS'.out _).mono ?_
      rintro e y7 ⟨v8, rfl, ho8, hx⟩
      replace hT := Below_then hT hx
      replace ho1 := ho1.below hx
      replace hB1 := heap_keepB hB1 hx
      replace ho2 := ho2.below hx
      replace hB2 := heap_keepB hB2 hx
      replace ho7 := ho7.below hx
      replace hB7 := heap_keepB hB7 hx
      clear hx
      obtain ⟨A8, c8, rfl, -⟩ := ho8.form
      replace hT := Below_al hT (.cells #[.slice A8 zo.length c8] 28 (0, 0))
      replace ho1 := ho1.alloc (.cells #[.slice A8 zo.length c8] 28 (0, 0))
      replace hB1 := heap_keepA hB1 (.cells #[.slice A8 zo.length c8] 28 (0, 0))
      replace ho2 := ho2.alloc (.cells #[.slice A8 zo.length c8] 28 (0, 0))
      replace hB2 := heap_keepA hB2 (.cells #[.slice A8 zo.length c8] 28 (0, 0))
      replace ho7 := ho7.alloc (.cells #[.slice A8 zo.length c8] 28 (0, 0))
      replace hB7 := heap_keepA hB7 (.cells #[.slice A8 zo.length c8] 28 (0, 0))
      replace ho8 := ho8.alloc (.cells #[.slice A8 zo.length c8] 28 (0, 0))
      have hB8 : (y7.alloc (.cells #[.slice A8 zo.length c8] 28 (0, 0))).heap[y7.heap.size]? = some (.cells #[.slice A8 zo.length c8] 28 (0, 0)) := heap_hit _ _ _ rfl
      cases ok
      · have khB70 := cell_of hB7 0
        have khB80 := cell_of hB8 0
        go_wp2_with fail
        clear khB70 khB80
        refine (rInts_same zo _ ho7 ho8 (by omega)).mono ?_
        rintro e y8 ⟨rfl, hx⟩
        replace hT := Below_then hT hx
        replace ho1 := ho1.below hx
        replace hB1 := heap_keepB hB1 hx
        replace ho2 := ho2.below hx
        replace hB2 := heap_keepB hB2 hx
        replace ho7 := ho7.below hx
        replace hB7 := heap_keepB hB7 hx
        replace ho8 := ho8.below hx
        replace hB8 := heap_keepB hB8 hx
        clear hx
        go_wp2_with fail
        refine (DrawInShield_any A0 n0 c0 _ (u0.below hT) hn).mono ?_
        rintro e y9 ⟨x, y, rfl, -, hx⟩
        replace hT := Below_then hT hx
        replace ho1 := ho1.below hx
        replace hB1 := heap_keepB hB1 hx
        replace ho2 := ho2.below hx
        replace hB2 := heap_keepB hB2 hx
        replace ho7 := ho7.below hx
        replace hB7 := heap_keepB hB7 hx
        replace ho8 := ho8.below hx
        replace hB8 := heap_keepB hB8 hx
        clear hx
        generalize hs : inSh x y = sx
        have IS : ∀ w, Calls Try.prog 19 #[.int .i64 x, .int .i64 y] w fun e w' => e = .returned (.bool sx) ∧ w = w' := fun w => by rw [← hs]; exact InShield_any x y w
        have SS : ∀ w, Calls Try.prog 20 #[.int .i64 x, .int .i64 y] w fun e w' => e = .returned (.bool sx) ∧ w = w' := fun w => by rw [← hs]; exact specInShield_any x y w
        have IS' := Lib.hid IS
        have SS' := Lib.hid SS
        clear IS SS hs
        go_wp2_with fail
        refine (IS'.out _).mono ?_
        rintro e w1 ⟨rfl, rfl⟩
        go_wp2_with fail
        refine (SS'.out _).mono ?_
        rintro e w1 ⟨rfl, rfl⟩
        cases sx <;> (go_wp2; go_ret; exact ⟨rfl, hT⟩)
      · have khB70 := cell_of hB7 0
        have khB80 := cell_of hB8 0
        go_wp2_with fail
        clear khB70 khB80
        refine (rInts_same zo _ ho7 ho8 (by omega)).mono ?_
        rintro e y8 ⟨rfl, hx⟩
        replace hT := Below_then hT hx
        replace ho1 := ho1.below hx
        replace hB1 := heap_keepB hB1 hx
        replace ho2 := ho2.below hx
        replace hB2 := heap_keepB hB2 hx
        replace ho7 := ho7.below hx
        replace hB7 := heap_keepB hB7 hx
        replace ho8 := ho8.below hx
        replace hB8 := heap_keepB hB8 hx
        clear hx
        have r7 := reads ho7
        have khB70 := cell_of hB7 0
        go_wp2_with fail
        clear khB70
        refine (KV'.out (by simp) _ _ _ r7).mono ?_
        rintro e y9 ⟨rfl, hx⟩
        replace hT := Below_then hT hx
        replace ho1 := ho1.below hx
        replace hB1 := heap_keepB hB1 hx
        replace ho2 := ho2.below hx
        replace hB2 := heap_keepB hB2 hx
        replace ho7 := ho7.below hx
        replace hB7 := heap_keepB hB7 hx
        replace ho8 := ho8.below hx
        replace hB8 := heap_keepB hB8 hx
        clear hx
        go_wp2_with fail
        refine (DrawInShield_any A0 n0 c0 _ (u0.below hT) hn).mono ?_
        rintro e y10 ⟨x, y, rfl, -, hx⟩
        replace hT := Below_then hT hx
        replace ho1 := ho1.below hx
        replace hB1 := heap_keepB hB1 hx
        replace ho2 := ho2.below hx
        replace hB2 := heap_keepB hB2 hx
        replace ho7 := ho7.below hx
        replace hB7 := heap_keepB hB7 hx
        replace ho8 := ho8.below hx
        replace hB8 := heap_keepB hB8 hx
        clear hx
        generalize hs : inSh x y = sx
        have IS : ∀ w, Calls Try.prog 19 #[.int .i64 x, .int .i64 y] w fun e w' => e = .returned (.bool sx) ∧ w = w' := fun w => by rw [← hs]; exact InShield_any x y w
        have SS : ∀ w, Calls Try.prog 20 #[.int .i64 x, .int .i64 y] w fun e w' => e = .returned (.bool sx) ∧ w = w' := fun w => by rw [← hs]; exact specInShield_any x y w
        have IS' := Lib.hid IS
        have SS' := Lib.hid SS
        clear IS SS hs
        go_wp2_with fail
        refine (IS'.out _).mono ?_
        rintro e w1 ⟨rfl, rfl⟩
        go_wp2_with fail
        refine (SS'.out _).mono ?_
        rintro e w1 ⟨rfl, rfl⟩
        cases sx <;> (go_wp2; go_ret; exact ⟨rfl, hT⟩)
  · have hn2 : decide (65536 < n0) = true := by simp; omega
    go_enter Try.func3, Try.ntmps3
    go_wp2_with fail
    refine (rBig_any A0 n0 c0 _).mono ?_
    rw [hn2]
    rintro e w1 ⟨rfl, rfl⟩
    go_wp2
    go_ret
    exact ⟨rfl, Below.refl _ _⟩

/-! ### The row's step: written by a program of mine (frame.py) after the kit's shell -/
theorem laidOut : laidOutB Try.prog = true := by kernel_rfl
set_option maxRecDepth 100000 in
theorem lifted (os : Os) (started : os.Started) (H : Type) (enc : TypeId × Value → H) :
    ReturnsInHanded {} Try.checked os 3 .any (Rows.fnPartsSpec.pre6 enc Try.prog Try.f3 Rows.fnPartsRow.domain false) (Rows.fnPartsSpec.post enc Try.prog Try.f3 false true false false) := by
  refine returnsInHanded_of_change (C := Try.checked) own started (by kernel_rfl) Try.func3
    (ChangeSpec.witness6 (enc := enc) (C := Try.checked) false ⟨#[], #[.slice none 0 0], []⟩ 8 (by kernel_rfl) (by kernel_rfl) (by kernel_rfl) (by kernel_rfl)) ?_
  intro W base args ds gs before hval0 hW hcnd _
  have hval : ∀ (j : Nat) t v, Try.f3.params[j]? = some t → args[j]? = some v → Value.okWide Try.prog W .any base t v := hval0
  have hW' := hW
  obtain ⟨p, q, hA0, hV, rfl, hfz, hnd⟩ := hW
  have hA : DataW.TrodAll enc Try.prog W 0 (fun _ => true) true Try.f3.params.toList args.toList ds p := hA0
  rw [Try.params3] at hA hval
  obtain ⟨v0, vs0, d0, ds0, p0, q0, hargs, rfl, rfl, h0, r0⟩ := trodAll_cons hA
  obtain ⟨rfl, rfl, rfl⟩ := trodAll_nil r0
  obtain rfl : args = #[v0] := by cases args; simp_all
  obtain ⟨rfl, rfl⟩ := trodVars_none hV
  have k0 := h0
  have lt0 : ∀ x ∈ p0, x.block < W.heap.size := by obtain ⟨m, hm⟩ := k0; exact DataW.trod_lt m _ _ _ hm
  obtain ⟨A0, n0, c0, rfl, u0⟩ := openCode (hval 0 22 v0 rfl rfl) h0
  clear hA0 hval0
  refine (walk W A0 n0 c0 u0).mono fun e W' ⟨he, bel⟩ => ?_
  subst he
  exact ⟨_, rfl, _, _, _, [], _, [], hW', trodAll_mk1 (shut_bool Try.underlying4 _), (trodAll_cons_mk (Below.trod laidOut (by kernel_rfl) (of_decide_eq_true (by kernel_rfl)) k0 bel lt0) trodAll_mk0), rfl, bel.frame _, fun h => by cases h⟩

theorem over : Rows.fnPartsRow.holds Try.pinned (OpenSpec.ofChange Rows.fnPartsSpec) :=
  OpenClaim.holds_of_wide 3 Try.f3 rfl rfl rfl rfl rfl rfl rfl ⟨rfl, rfl, rfl, rfl, rfl⟩ rfl rfl rfl rfl rfl (by kernel_rfl) Try.func3 (by kernel_rfl)
    (of_decide_eq_true (by kernel_rfl)) (by unfold Func.isWrapper; first | (rw [if_pos (by decide +kernel)]; kernel_rfl) | (rw [if_neg (by decide +kernel)]; exact ⟨rfl, rfl⟩))
    (fun os started H enc _ => lifted os started H enc)

theorem proved : Rows.FnPartsSaid := over
#print axioms proved

end Go.Proofs.Ytfmigkiliggdhaa.fnParts
