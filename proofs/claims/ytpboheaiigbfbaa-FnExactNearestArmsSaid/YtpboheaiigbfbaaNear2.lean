/- Contracts: NearestArms, both sides: valid lists. -/
import Derived.Test.YtpboheaiigbfbaaNear
namespace Go.Proofs.Ytpboheaiigbfbaa
open Go.ChangeShapes Go.WideShapes Go.ChangeAt Go.RowKit
set_option linter.unusedVariables false
set_option linter.unusedSimpArgs false

theorem nearOk_parts {rows : List ArmsD} {a : ArmsD} (h : nearOk rows a = true) : listOk 16 rows = true ∧ armsOk a = true ∧ 0 < rows.length := by
  unfold nearOk at h
  rw [Bool.and_eq_true, Bool.and_eq_true, decide_eq_true_iff] at h
  exact ⟨h.1.1, h.1.2, h.2⟩

set_option maxHeartbeats 2000000 in
theorem specNearest_yes (A : Option Addr) (c : Nat) (rows : List ArmsD) (a : ArmsD) (w : World) (h : RdR 15 w A (acs rows)) (hl : rows.length ≤ 1048576) (hn : nearOk rows a = true) :
    Calls Try.prog 20 #[.slice A rows.length c, .agg (ac a).toArray] w fun e w' => e = .returned (.tuple #[.int .i64 (nearI rows a), .int .i64 (nearD rows a), .bool (nearOk rows a)]) ∧ Below w.heap.size w w' := by
  obtain ⟨ho, ga, hp⟩ := nearOk_parts hn
  have e1 : nearI rows a = (bestTo (dist rows a) rows.length : Nat) := by rw [nearI, hn]; rfl
  have e2 : nearD rows a = dist rows a (bestTo (dist rows a) rows.length) := by rw [nearD, hn]; rfl
  rw [e1, e2, hn]
  have KL := fun (w' : World) (hb : Below w.heap.size w w') => l15List_any A c rows w' (h.below hb) hl
  have KA := fun w' => l5GoodC a w'
  rw [ho] at KL
  rw [ga] at KA
  have h16 := listOk_le ho
  have hz : ((rows.length : Int) == 0) = false := by
    rw [beq_eq_false_iff_ne]
    omega
  have KL' := Lib.hid KL
  have KA' := Lib.hid KA
  have HH := Lib.hid h
  have HO := Lib.hid ho
  clear KL KA e1 e2 h ho hn
  go_enter Try.func20, Try.ntmps20
  go_wp2_with (first | (go_at_call 49; refine (KL'.out _ (by (repeat (first | exact Below.refl _ _ | assumption | refine Below_al ?_ _ | refine Below.drew ?_ | refine Below_then ?_ (by assumption) | refine Below.setCell ?_ (by first | omega | (simp; done) | (simp; omega)) _)))).mono ?_; rintro e w1 ⟨rfl, hb1⟩; have hr := blk_cells (heap_keepB (heap_hit _ _ _ rfl) hb1); have hB := heap_keepB (heap_hit w (.cells (ac a).toArray 34) _ rfl) hb1) | (go_at_call 36; refine (KA'.out _).mono ?_; rintro e w2 ⟨rfl, hb2⟩) | fail)
  have hB := heap_keepB hB hb2
  have hb0 : Below w.heap.size w w2 := by (repeat (first | exact Below.refl _ _ | assumption | refine Below_al ?_ _ | refine Below.drew ?_ | refine Below_then ?_ (by assumption) | refine Below.setCell ?_ (by first | omega | (simp; done) | (simp; omega)) _))
  have hbl := heap_lt hB
  clear hr hb1 hb2 hz
  go_wp2_with fail
  go_loopw [7, 8] (fun bi i wr => ∃ k j : Nat, k ≤ rows.length ∧ j < rows.length ∧ i = .int .i64 k ∧ bi = .int .i64 j ∧ j = bestTo (dist rows a) k ∧ 1 ≤ k ∧ wr.heap[w.heap.size]? = some (.cells (ac a).toArray 34 (0, 0)) ∧ Below w.heap.size w wr) (fun _ i _ => rows.length - (intOf i).toNat)
  case atStart => exact ⟨1, 0, by omega, hp, rfl, rfl, (bestTo_one _).symm, Nat.le_refl _, hB, hb0⟩
  case round =>
    clear hB hb0
    obtain ⟨k, j, hk, hjl, rfl, rfl, hj, hk1, hB', hb⟩ := hrel
    have hBl : 1 ≤ k + 1 := by omega
    have HJ := Lib.hid hj
    clear hj
    have hA0 := rangeAt_blk hB'
    obtain ⟨y, hyr⟩ := arms_at hjl
    obtain ⟨b, off, rfl, hy, -⟩ := (HH.out.below hb).arms hyr
    have gy := listOk_at HO.out hyr
    have ey : dist rows a j = df y a := dist_at hyr
    have KY := fun w => l15CountC y a w gy ga
    rw [← ey] at KY
    have j1 : (j : Int) < (rows.length : Int) := by omega
    have j0 : (0 : Int) ≤ (j : Int) := by omega
    by_cases hlt : k < rows.length
    · obtain ⟨x, hxr⟩ := arms_at hlt
      obtain ⟨b2, off2, e, hx, -⟩ := (HH.out.below hb).arms hxr
      injection e with e
      injection e with e1 e2
      subst e1 e2
      have gx := listOk_at HO.out hxr
      have ex : dist rows a k = df x a := dist_at hxr
      have KX := fun w => l15CountC x a w gx ga
      rw [← ex] at KX
      have i1 : (k : Int) < (rows.length : Int) := by omega
      have d1 : decide (k < rows.length) = true := by simpa using hlt
      have KX' := Lib.hid KX
      have KY' := Lib.hid KY
      clear KX KY gx gy ex ey hxr hyr
      by_cases hd : dist rows a k < dist rows a (bestTo (dist rows a) k)
      · have hd' : dist rows a k < dist rows a j := by rw [HJ.out]; exact hd
        have HD := Lib.hid hd
        clear hd
        generalize dist rows a k = vk at KX' hd'
        generalize dist rows a j = vj at KY' hd'
        go_wp2_with fail
        refine wp_region_noPanic ?_
        refine wp_region_held_drew (S := (fun w' => w'.rangeAt b (off + k * 15) (ac x) ∧ w'.rangeAt b (off + j * 15) (ac y) ∧ w'.rangeAt w.heap.size 0 (ac a) ∧ Below wr.heap.size wr w')) (by kernel_rfl) ⟨hx, hy, hA0, (Below.refl _ _).drew⟩ (fun hHeld => ?_)
        refine wpAnyH_take (i := 0) (oi := _) (v := ?_) rfl (by kernel_rfl) (by kernel_rfl) (by kernel_rfl) (fun _ _ _ h => h) (Or.inl ⟨by rfl, ?_⟩) (by assumption) ?_
        rotate_left
        · intro w hSw; clear hSw; first | (go_simp; done) | (go_simp; with_reducible rfl)
        simp only [Act.put, List.getElem_toArray, List.getElem_cons_succ, List.getElem_cons_zero, List.setIfInBounds_toArray, List.set_cons_zero, List.set_cons_succ]
        refine wpAnyH_take (i := 1) (oi := _) (v := ?_) rfl (by kernel_rfl) (by kernel_rfl) (by kernel_rfl) (fun _ _ _ h => h) (Or.inl ⟨by rfl, ?_⟩) (by assumption) ?_
        rotate_left
        · intro w hSw; clear hSw; first | (go_simp; done) | (go_simp; with_reducible rfl)
        simp only [Act.put, List.getElem_toArray, List.getElem_cons_succ, List.getElem_cons_zero, List.setIfInBounds_toArray, List.set_cons_zero, List.set_cons_succ]
        refine wpAnyH_take (i := 2) (oi := _) (v := ?_) rfl (by kernel_rfl) (by kernel_rfl) (by kernel_rfl) (fun _ _ _ h => h) (Or.inl ⟨by rfl, ?_⟩) (by assumption) ?_
        rotate_left
        · intro w hSw; clear hSw; first | (go_simp; done) | (go_simp; with_reducible rfl)
        simp only [Act.put, List.getElem_toArray, List.getElem_cons_succ, List.getElem_cons_zero, List.setIfInBounds_toArray, List.set_cons_zero, List.set_cons_succ]
        refine wpAnyH_take (i := 3) (oi := _) (v := _) rfl ?g1_1 ?g2_1 ?g3_1 (fun _ _ _ h => h) (yieldsIf_load_mid ?g4_1 _ _ rfl b ?oo_1 ?g5_1 (ac x) _ ?g6_1 Try.underlying34 rfl (info_ac x)) ?g7_1 ?_
        case g5_1 => rfl
        case g1_1 => kernel_rfl
        case g2_1 => kernel_rfl
        case g3_1 => kernel_rfl
        case g6_1 => exact (fun _ h => h.1)
        case g4_1 => kernel_rfl
        case g7_1 => assumption
        simp only [Act.put, List.getElem_toArray, List.getElem_cons_succ, List.getElem_cons_zero, List.setIfInBounds_toArray, List.set_cons_zero, List.set_cons_succ]
        refine wpAnyH_take (i := 4) (oi := _) (v := _) rfl ?g1_2 ?g2_2 ?g3_2 (fun _ _ _ h => h) (yieldsIf_load_mid ?g4_2 _ _ rfl w.heap.size ?oo_2 ?g5_2 (ac a) _ ?g6_2 Try.underlying34 rfl (info_ac a)) ?g7_2 ?_
        case g5_2 => rfl
        case g1_2 => kernel_rfl
        case g2_2 => kernel_rfl
        case g3_2 => kernel_rfl
        case g6_2 => exact (fun _ h => h.2.2.1)
        case g4_2 => kernel_rfl
        case g7_2 => assumption
        simp only [Act.put, List.getElem_toArray, List.getElem_cons_succ, List.getElem_cons_zero, List.setIfInBounds_toArray, List.set_cons_zero, List.set_cons_succ]
        refine wpAnyH_take (i := 6) (oi := _) (v := ?_) rfl (by kernel_rfl) (by kernel_rfl) (by kernel_rfl) (fun _ _ _ h => h) (Or.inl ⟨by rfl, ?_⟩) (by assumption) ?_
        rotate_left
        · intro w hSw; clear hSw; first | (go_simp; done) | (go_simp; with_reducible rfl)
        simp only [Act.put, List.getElem_toArray, List.getElem_cons_succ, List.getElem_cons_zero, List.setIfInBounds_toArray, List.set_cons_zero, List.set_cons_succ]
        refine wpAnyH_take (i := 7) (oi := _) (v := ?_) rfl (by kernel_rfl) (by kernel_rfl) (by kernel_rfl) (fun _ _ _ h => h) (Or.inl ⟨by rfl, ?_⟩) (by assumption) ?_
        rotate_left
        · intro w hSw; clear hSw; first | (go_simp; done) | (go_simp; with_reducible rfl)
        simp only [Act.put, List.getElem_toArray, List.getElem_cons_succ, List.getElem_cons_zero, List.setIfInBounds_toArray, List.set_cons_zero, List.set_cons_succ]
        refine wpAnyH_take (i := 8) (oi := _) (v := ?_) rfl (by kernel_rfl) (by kernel_rfl) (by kernel_rfl) (fun _ _ _ h => h) (Or.inl ⟨by rfl, ?_⟩) (by assumption) ?_
        rotate_left
        · intro w hSw; clear hSw; first | (go_simp; done) | (go_simp; with_reducible rfl)
        simp only [Act.put, List.getElem_toArray, List.getElem_cons_succ, List.getElem_cons_zero, List.setIfInBounds_toArray, List.set_cons_zero, List.set_cons_succ]
        refine wpAnyH_take (i := 9) (oi := _) (v := _) rfl ?g1_3 ?g2_3 ?g3_3 (fun _ _ _ h => h) (yieldsIf_load_mid ?g4_3 _ _ rfl b ?oo_3 ?g5_3 (ac y) _ ?g6_3 Try.underlying34 rfl (info_ac y)) ?g7_3 ?_
        case g5_3 => rfl
        case g1_3 => kernel_rfl
        case g2_3 => kernel_rfl
        case g3_3 => kernel_rfl
        case g6_3 => exact (fun _ h => h.2.1)
        case g4_3 => kernel_rfl
        case g7_3 => assumption
        simp only [Act.put, List.getElem_toArray, List.getElem_cons_succ, List.getElem_cons_zero, List.setIfInBounds_toArray, List.set_cons_zero, List.set_cons_succ]
        refine wpAnyH_take (i := 10) (oi := _) (v := _) rfl ?g1_4 ?g2_4 ?g3_4 (fun _ _ _ h => h) (yieldsIf_load_mid ?g4_4 _ _ rfl w.heap.size ?oo_4 ?g5_4 (ac a) _ ?g6_4 Try.underlying34 rfl (info_ac a)) ?g7_4 ?_
        case g5_4 => rfl
        case g1_4 => kernel_rfl
        case g2_4 => kernel_rfl
        case g3_4 => kernel_rfl
        case g6_4 => exact (fun _ h => h.2.2.1)
        case g4_4 => kernel_rfl
        case g7_4 => assumption
        simp only [Act.put, List.getElem_toArray, List.getElem_cons_succ, List.getElem_cons_zero, List.setIfInBounds_toArray, List.set_cons_zero, List.set_cons_succ]
        refine wpAnyH_ready (rs := [5]) (by kernel_rfl) (by simp) ?_
        refine AllReadyH.cons (o := _) rfl (fun K hK => ?_) AllReadyH.nil
        go_simp
        refine (KX'.out _).mono ?_
        rintro e x1 ⟨rfl, hx1⟩
        go_wp2_with fail
        refine hK.out _ _ (heldR3 hHeld hx1) (fun hHeld => ?_)
        clear hK K
        try simp only [Act.put, List.getElem_toArray, List.getElem_cons_succ, List.getElem_cons_zero, List.setIfInBounds_toArray, List.set_cons_zero, List.set_cons_succ]
        refine wpAnyH_ready (rs := [11]) (by kernel_rfl) (by simp) ?_
        refine AllReadyH.cons (o := _) rfl (fun K hK => ?_) AllReadyH.nil
        go_simp
        refine (KY'.out _).mono ?_
        rintro e x2 ⟨rfl, hx2⟩
        go_wp2_with fail
        refine hK.out _ _ (heldR3 hHeld hx2) (fun hHeld => ?_)
        clear hK K
        try simp only [Act.put, List.getElem_toArray, List.getElem_cons_succ, List.getElem_cons_zero, List.setIfInBounds_toArray, List.set_cons_zero, List.set_cons_succ]
        refine wpAnyH_take (i := 12) (oi := _) (v := ?_) rfl (by kernel_rfl) (by kernel_rfl) (by kernel_rfl) (fun _ _ _ h => h) (Or.inl ⟨by rfl, ?_⟩) (by assumption) ?_
        rotate_left
        · intro w hSw; clear hSw; first | (go_simp; done) | (go_simp; with_reducible rfl)
        simp only [Act.put, List.getElem_toArray, List.getElem_cons_succ, List.getElem_cons_zero, List.setIfInBounds_toArray, List.set_cons_zero, List.set_cons_succ]
        refine wpAnyH_done (by kernel_rfl) ?_ _
        refine NoPanic.normal ?_
        go_wp2
        go_roundw
        case rel => exact ⟨k + 1, k, by omega, by omega, by go_num, rfl, (bestTo_yes HD.out).symm, hBl, by obtain ⟨-, -, -, sb⟩ : _ ∧ _ ∧ _ ∧ Below wr.heap.size wr _ := (by assumption); exact heap_keepB hB' sb, by obtain ⟨-, -, -, sb⟩ : _ ∧ _ ∧ _ ∧ Below wr.heap.size wr _ := (by assumption); exact Below_then hb sb⟩
        case measure => simp [intOf]; omega
      · have hd' : ¬ dist rows a k < dist rows a j := by rw [HJ.out]; exact hd
        have HD := Lib.hid hd
        clear hd
        generalize dist rows a k = vk at KX' hd'
        generalize dist rows a j = vj at KY' hd'
        go_wp2_with fail
        refine wp_region_noPanic ?_
        refine wp_region_held_drew (S := (fun w' => w'.rangeAt b (off + k * 15) (ac x) ∧ w'.rangeAt b (off + j * 15) (ac y) ∧ w'.rangeAt w.heap.size 0 (ac a) ∧ Below wr.heap.size wr w')) (by kernel_rfl) ⟨hx, hy, hA0, (Below.refl _ _).drew⟩ (fun hHeld => ?_)
        refine wpAnyH_take (i := 0) (oi := _) (v := ?_) rfl (by kernel_rfl) (by kernel_rfl) (by kernel_rfl) (fun _ _ _ h => h) (Or.inl ⟨by rfl, ?_⟩) (by assumption) ?_
        rotate_left
        · intro w hSw; clear hSw; first | (go_simp; done) | (go_simp; with_reducible rfl)
        simp only [Act.put, List.getElem_toArray, List.getElem_cons_succ, List.getElem_cons_zero, List.setIfInBounds_toArray, List.set_cons_zero, List.set_cons_succ]
        refine wpAnyH_take (i := 1) (oi := _) (v := ?_) rfl (by kernel_rfl) (by kernel_rfl) (by kernel_rfl) (fun _ _ _ h => h) (Or.inl ⟨by rfl, ?_⟩) (by assumption) ?_
        rotate_left
        · intro w hSw; clear hSw; first | (go_simp; done) | (go_simp; with_reducible rfl)
        simp only [Act.put, List.getElem_toArray, List.getElem_cons_succ, List.getElem_cons_zero, List.setIfInBounds_toArray, List.set_cons_zero, List.set_cons_succ]
        refine wpAnyH_take (i := 2) (oi := _) (v := ?_) rfl (by kernel_rfl) (by kernel_rfl) (by kernel_rfl) (fun _ _ _ h => h) (Or.inl ⟨by rfl, ?_⟩) (by assumption) ?_
        rotate_left
        · intro w hSw; clear hSw; first | (go_simp; done) | (go_simp; with_reducible rfl)
        simp only [Act.put, List.getElem_toArray, List.getElem_cons_succ, List.getElem_cons_zero, List.setIfInBounds_toArray, List.set_cons_zero, List.set_cons_succ]
        refine wpAnyH_take (i := 3) (oi := _) (v := _) rfl ?g1_5 ?g2_5 ?g3_5 (fun _ _ _ h => h) (yieldsIf_load_mid ?g4_5 _ _ rfl b ?oo_5 ?g5_5 (ac x) _ ?g6_5 Try.underlying34 rfl (info_ac x)) ?g7_5 ?_
        case g5_5 => rfl
        case g1_5 => kernel_rfl
        case g2_5 => kernel_rfl
        case g3_5 => kernel_rfl
        case g6_5 => exact (fun _ h => h.1)
        case g4_5 => kernel_rfl
        case g7_5 => assumption
        simp only [Act.put, List.getElem_toArray, List.getElem_cons_succ, List.getElem_cons_zero, List.setIfInBounds_toArray, List.set_cons_zero, List.set_cons_succ]
        refine wpAnyH_take (i := 4) (oi := _) (v := _) rfl ?g1_6 ?g2_6 ?g3_6 (fun _ _ _ h => h) (yieldsIf_load_mid ?g4_6 _ _ rfl w.heap.size ?oo_6 ?g5_6 (ac a) _ ?g6_6 Try.underlying34 rfl (info_ac a)) ?g7_6 ?_
        case g5_6 => rfl
        case g1_6 => kernel_rfl
        case g2_6 => kernel_rfl
        case g3_6 => kernel_rfl
        case g6_6 => exact (fun _ h => h.2.2.1)
        case g4_6 => kernel_rfl
        case g7_6 => assumption
        simp only [Act.put, List.getElem_toArray, List.getElem_cons_succ, List.getElem_cons_zero, List.setIfInBounds_toArray, List.set_cons_zero, List.set_cons_succ]
        refine wpAnyH_take (i := 6) (oi := _) (v := ?_) rfl (by kernel_rfl) (by kernel_rfl) (by kernel_rfl) (fun _ _ _ h => h) (Or.inl ⟨by rfl, ?_⟩) (by assumption) ?_
        rotate_left
        · intro w hSw; clear hSw; first | (go_simp; done) | (go_simp; with_reducible rfl)
        simp only [Act.put, List.getElem_toArray, List.getElem_cons_succ, List.getElem_cons_zero, List.setIfInBounds_toArray, List.set_cons_zero, List.set_cons_succ]
        refine wpAnyH_take (i := 7) (oi := _) (v := ?_) rfl (by kernel_rfl) (by kernel_rfl) (by kernel_rfl) (fun _ _ _ h => h) (Or.inl ⟨by rfl, ?_⟩) (by assumption) ?_
        rotate_left
        · intro w hSw; clear hSw; first | (go_simp; done) | (go_simp; with_reducible rfl)
        simp only [Act.put, List.getElem_toArray, List.getElem_cons_succ, List.getElem_cons_zero, List.setIfInBounds_toArray, List.set_cons_zero, List.set_cons_succ]
        refine wpAnyH_take (i := 8) (oi := _) (v := ?_) rfl (by kernel_rfl) (by kernel_rfl) (by kernel_rfl) (fun _ _ _ h => h) (Or.inl ⟨by rfl, ?_⟩) (by assumption) ?_
        rotate_left
        · intro w hSw; clear hSw; first | (go_simp; done) | (go_simp; with_reducible rfl)
        simp only [Act.put, List.getElem_toArray, List.getElem_cons_succ, List.getElem_cons_zero, List.setIfInBounds_toArray, List.set_cons_zero, List.set_cons_succ]
        refine wpAnyH_take (i := 9) (oi := _) (v := _) rfl ?g1_7 ?g2_7 ?g3_7 (fun _ _ _ h => h) (yieldsIf_load_mid ?g4_7 _ _ rfl b ?oo_7 ?g5_7 (ac y) _ ?g6_7 Try.underlying34 rfl (info_ac y)) ?g7_7 ?_
        case g5_7 => rfl
        case g1_7 => kernel_rfl
        case g2_7 => kernel_rfl
        case g3_7 => kernel_rfl
        case g6_7 => exact (fun _ h => h.2.1)
        case g4_7 => kernel_rfl
        case g7_7 => assumption
        simp only [Act.put, List.getElem_toArray, List.getElem_cons_succ, List.getElem_cons_zero, List.setIfInBounds_toArray, List.set_cons_zero, List.set_cons_succ]
        refine wpAnyH_take (i := 10) (oi := _) (v := _) rfl ?g1_8 ?g2_8 ?g3_8 (fun _ _ _ h => h) (yieldsIf_load_mid ?g4_8 _ _ rfl w.heap.size ?oo_8 ?g5_8 (ac a) _ ?g6_8 Try.underlying34 rfl (info_ac a)) ?g7_8 ?_
        case g5_8 => rfl
        case g1_8 => kernel_rfl
        case g2_8 => kernel_rfl
        case g3_8 => kernel_rfl
        case g6_8 => exact (fun _ h => h.2.2.1)
        case g4_8 => kernel_rfl
        case g7_8 => assumption
        simp only [Act.put, List.getElem_toArray, List.getElem_cons_succ, List.getElem_cons_zero, List.setIfInBounds_toArray, List.set_cons_zero, List.set_cons_succ]
        refine wpAnyH_ready (rs := [5]) (by kernel_rfl) (by simp) ?_
        refine AllReadyH.cons (o := _) rfl (fun K hK => ?_) AllReadyH.nil
        go_simp
        refine (KX'.out _).mono ?_
        rintro e x1 ⟨rfl, hx1⟩
        go_wp2_with fail
        refine hK.out _ _ (heldR3 hHeld hx1) (fun hHeld => ?_)
        clear hK K
        try simp only [Act.put, List.getElem_toArray, List.getElem_cons_succ, List.getElem_cons_zero, List.setIfInBounds_toArray, List.set_cons_zero, List.set_cons_succ]
        refine wpAnyH_ready (rs := [11]) (by kernel_rfl) (by simp) ?_
        refine AllReadyH.cons (o := _) rfl (fun K hK => ?_) AllReadyH.nil
        go_simp
        refine (KY'.out _).mono ?_
        rintro e x2 ⟨rfl, hx2⟩
        go_wp2_with fail
        refine hK.out _ _ (heldR3 hHeld hx2) (fun hHeld => ?_)
        clear hK K
        try simp only [Act.put, List.getElem_toArray, List.getElem_cons_succ, List.getElem_cons_zero, List.setIfInBounds_toArray, List.set_cons_zero, List.set_cons_succ]
        refine wpAnyH_take (i := 12) (oi := _) (v := ?_) rfl (by kernel_rfl) (by kernel_rfl) (by kernel_rfl) (fun _ _ _ h => h) (Or.inl ⟨by rfl, ?_⟩) (by assumption) ?_
        rotate_left
        · intro w hSw; clear hSw; first | (go_simp; done) | (go_simp; with_reducible rfl)
        simp only [Act.put, List.getElem_toArray, List.getElem_cons_succ, List.getElem_cons_zero, List.setIfInBounds_toArray, List.set_cons_zero, List.set_cons_succ]
        refine wpAnyH_done (by kernel_rfl) ?_ _
        refine NoPanic.normal ?_
        go_wp2
        go_roundw
        case rel => exact ⟨k + 1, j, by omega, by omega, by go_num, rfl, by rw [bestTo_no (by have := HD.out; omega)]; exact HJ.out, hBl, by obtain ⟨-, -, -, sb⟩ : _ ∧ _ ∧ _ ∧ Below wr.heap.size wr _ := (by assumption); exact heap_keepB hB' sb, by obtain ⟨-, -, -, sb⟩ : _ ∧ _ ∧ _ ∧ Below wr.heap.size wr _ := (by assumption); exact Below_then hb sb⟩
        case measure => simp [intOf]; omega
    · obtain rfl : k = rows.length := by omega
      have d1 : decide (rows.length < rows.length) = false := by simp
      have KY' := Lib.hid KY
      clear KY gy ey hyr
      obtain ⟨vj, hvj⟩ : ∃ v, v = dist rows a j := ⟨_, rfl⟩
      rw [← hvj] at KY'
      have HVJ := Lib.hid hvj
      clear hvj
      go_wp2_with fail
      refine wp_region_noPanic ?_
      refine wp_region_held_drew (S := (fun w' => w'.rangeAt b (off + j * 15) (ac y) ∧ w'.rangeAt w.heap.size 0 (ac a) ∧ Below wr.heap.size wr w')) (by kernel_rfl) ⟨hy, hA0, (Below.refl _ _).drew⟩ (fun hHeld => ?_)
      refine wpAnyH_take (i := 0) (oi := _) (v := ?_) rfl (by kernel_rfl) (by kernel_rfl) (by kernel_rfl) (fun _ _ _ h => h) (Or.inl ⟨by rfl, ?_⟩) (by assumption) ?_
      rotate_left
      · intro w hSw; clear hSw; first | (go_simp; done) | (go_simp; with_reducible rfl)
      simp only [Act.put, List.getElem_toArray, List.getElem_cons_succ, List.getElem_cons_zero, List.setIfInBounds_toArray, List.set_cons_zero, List.set_cons_succ]
      refine wpAnyH_take (i := 1) (oi := _) (v := ?_) rfl (by kernel_rfl) (by kernel_rfl) (by kernel_rfl) (fun _ _ _ h => h) (Or.inl ⟨by rfl, ?_⟩) (by assumption) ?_
      rotate_left
      · intro w hSw; clear hSw; first | (go_simp; done) | (go_simp; with_reducible rfl)
      simp only [Act.put, List.getElem_toArray, List.getElem_cons_succ, List.getElem_cons_zero, List.setIfInBounds_toArray, List.set_cons_zero, List.set_cons_succ]
      refine wpAnyH_take (i := 2) (oi := _) (v := ?_) rfl (by kernel_rfl) (by kernel_rfl) (by kernel_rfl) (fun _ _ _ h => h) (Or.inl ⟨by rfl, ?_⟩) (by assumption) ?_
      rotate_left
      · intro w hSw; clear hSw; first | (go_simp; done) | (go_simp; with_reducible rfl)
      simp only [Act.put, List.getElem_toArray, List.getElem_cons_succ, List.getElem_cons_zero, List.setIfInBounds_toArray, List.set_cons_zero, List.set_cons_succ]
      refine wpAnyH_take (i := 3) (oi := _) (v := ?_) rfl (by kernel_rfl) (by kernel_rfl) (by kernel_rfl) (fun _ _ _ h => h) (Or.inl ⟨by rfl, ?_⟩) (by assumption) ?_
      rotate_left
      · intro w hSw; clear hSw; first | (go_simp; done) | (go_simp; with_reducible rfl)
      simp only [Act.put, List.getElem_toArray, List.getElem_cons_succ, List.getElem_cons_zero, List.setIfInBounds_toArray, List.set_cons_zero, List.set_cons_succ]
      refine wpAnyH_take (i := 4) (oi := _) (v := _) rfl ?g1_9 ?g2_9 ?g3_9 (fun _ _ _ h => h) (yieldsIf_load_mid ?g4_9 _ _ rfl b ?oo_9 ?g5_9 (ac y) _ ?g6_9 Try.underlying34 rfl (info_ac y)) ?g7_9 ?_
      case g5_9 => rfl
      case g1_9 => kernel_rfl
      case g2_9 => kernel_rfl
      case g3_9 => kernel_rfl
      case g6_9 => exact (fun _ h => h.1)
      case g4_9 => kernel_rfl
      case g7_9 => assumption
      simp only [Act.put, List.getElem_toArray, List.getElem_cons_succ, List.getElem_cons_zero, List.setIfInBounds_toArray, List.set_cons_zero, List.set_cons_succ]
      refine wpAnyH_take (i := 5) (oi := _) (v := _) rfl ?g1_10 ?g2_10 ?g3_10 (fun _ _ _ h => h) (yieldsIf_load_mid ?g4_10 _ _ rfl w.heap.size ?oo_10 ?g5_10 (ac a) _ ?g6_10 Try.underlying34 rfl (info_ac a)) ?g7_10 ?_
      case g5_10 => rfl
      case g1_10 => kernel_rfl
      case g2_10 => kernel_rfl
      case g3_10 => kernel_rfl
      case g6_10 => exact (fun _ h => h.2.1)
      case g4_10 => kernel_rfl
      case g7_10 => assumption
      simp only [Act.put, List.getElem_toArray, List.getElem_cons_succ, List.getElem_cons_zero, List.setIfInBounds_toArray, List.set_cons_zero, List.set_cons_succ]
      refine wpAnyH_ready (rs := [6]) (by kernel_rfl) (by simp) ?_
      refine AllReadyH.cons (o := _) rfl (fun K hK => ?_) AllReadyH.nil
      go_simp
      refine (KY'.out _).mono ?_
      rintro e x2 ⟨rfl, hx2⟩
      go_wp2_with fail
      refine hK.out _ _ (heldRR hHeld hx2) (fun hHeld => ?_)
      clear hK K
      try simp only [Act.put, List.getElem_toArray, List.getElem_cons_succ, List.getElem_cons_zero, List.setIfInBounds_toArray, List.set_cons_zero, List.set_cons_succ]
      refine wpAnyH_take (i := 7) (oi := _) (v := ?_) rfl (by kernel_rfl) (by kernel_rfl) (by kernel_rfl) (fun _ _ _ h => h) (Or.inl ⟨by rfl, ?_⟩) (by assumption) ?_
      rotate_left
      · intro w hSw; clear hSw; first | (go_simp; done) | (go_simp; with_reducible rfl)
      simp only [Act.put, List.getElem_toArray, List.getElem_cons_succ, List.getElem_cons_zero, List.setIfInBounds_toArray, List.set_cons_zero, List.set_cons_succ]
      refine wpAnyH_take (i := 8) (oi := _) (v := ?_) rfl (by kernel_rfl) (by kernel_rfl) (by kernel_rfl) (fun _ _ _ h => h) (Or.inl ⟨by rfl, ?_⟩) (by assumption) ?_
      rotate_left
      · intro w hSw; clear hSw; first | (go_simp; done) | (go_simp; with_reducible rfl)
      simp only [Act.put, List.getElem_toArray, List.getElem_cons_succ, List.getElem_cons_zero, List.setIfInBounds_toArray, List.set_cons_zero, List.set_cons_succ]
      refine wpAnyH_take (i := 9) (oi := _) (v := ?_) rfl (by kernel_rfl) (by kernel_rfl) (by kernel_rfl) (fun _ _ _ h => h) (Or.inl ⟨by rfl, ?_⟩) (by assumption) ?_
      rotate_left
      · intro w hSw; clear hSw; first | (go_simp; done) | (go_simp; with_reducible rfl)
      simp only [Act.put, List.getElem_toArray, List.getElem_cons_succ, List.getElem_cons_zero, List.setIfInBounds_toArray, List.set_cons_zero, List.set_cons_succ]
      refine wpAnyH_done (by kernel_rfl) ?_ _
      refine NoPanic.normal ?_
      go_wp2
      go_ret3
      obtain ⟨-, -, sb⟩ : _ ∧ _ ∧ Below wr.heap.size wr _ := (by assumption)
      refine ⟨?_, Below_then hb sb⟩
      show Ending.returned (.tuple #[.int .i64 j, .int .i64 vj, .bool true]) = _
      rw [HVJ.out, ← HJ.out]
theorem specNearest_any (A : Option Addr) (c : Nat) (rows : List ArmsD) (a : ArmsD) (w : World) (h : RdR 15 w A (acs rows)) (hl : rows.length ≤ 1048576) : Calls Try.prog 20 #[.slice A rows.length c, .agg (ac a).toArray] w fun e w' => e = .returned (.tuple #[.int .i64 (nearI rows a), .int .i64 (nearD rows a), .bool (nearOk rows a)]) ∧ Below w.heap.size w w' := by
  cases hn : nearOk rows a
  · rw [← hn]
    exact specNearestArms_no A c rows a w h hl hn
  · rw [← hn]
    exact specNearest_yes A c rows a w h hl hn

set_option maxHeartbeats 2000000 in
theorem implNearest_yes (A : Option Addr) (c : Nat) (rows : List ArmsD) (a : ArmsD) (w : World) (h : RdR 15 w A (acs rows)) (hl : rows.length ≤ 1048576) (hn : nearOk rows a = true) :
    Calls Try.prog 22 #[.slice A rows.length c, .agg (ac a).toArray] w fun e w' => e = .returned (.tuple #[.int .i64 (nearI rows a), .int .i64 (nearD rows a), .bool (nearOk rows a)]) ∧ Below w.heap.size w w' := by
  obtain ⟨ho, ga, hp⟩ := nearOk_parts hn
  have e1 : nearI rows a = (bestTo (dist rows a) rows.length : Nat) := by rw [nearI, hn]; rfl
  have e2 : nearD rows a = dist rows a (bestTo (dist rows a) rows.length) := by rw [nearD, hn]; rfl
  rw [e1, e2, hn]
  have KL := fun (w' : World) (hb : Below w.heap.size w w') => areArms_any A c 16 rows w' (h.below hb) hl (by omega)
  have KA := fun w' => IsValidArmsC a w'
  rw [ho] at KL
  rw [ga] at KA
  have h16 := listOk_le ho
  have hz : ((rows.length : Int) == 0) = false := by
    rw [beq_eq_false_iff_ne]
    omega
  have KL' := Lib.hid KL
  have KA' := Lib.hid KA
  have HH := Lib.hid h
  have HO := Lib.hid ho
  clear KL KA e1 e2 h ho hn
  go_enter Try.func22, Try.ntmps22
  go_wp2_with (first | (go_at_call 51; refine (KL'.out _ (by (repeat (first | exact Below.refl _ _ | assumption | refine Below_al ?_ _ | refine Below.drew ?_ | refine Below_then ?_ (by assumption) | refine Below.setCell ?_ (by first | omega | (simp; done) | (simp; omega)) _)))).mono ?_; rintro e w1 ⟨rfl, hb1⟩; have hr := blk_cells (heap_keepB (heap_hit _ _ _ rfl) hb1); have hB := heap_keepB (heap_hit w (.cells (ac a).toArray 34) _ rfl) hb1) | (go_at_call 39; refine (KA'.out _).mono ?_; rintro e w2 ⟨rfl, hb2⟩) | fail)
  have hB := heap_keepB hB hb2
  have hb0 : Below w.heap.size w w2 := by (repeat (first | exact Below.refl _ _ | assumption | refine Below_al ?_ _ | refine Below.drew ?_ | refine Below_then ?_ (by assumption) | refine Below.setCell ?_ (by first | omega | (simp; done) | (simp; omega)) _))
  have hbl := heap_lt hB
  clear hr hb1 hb2 hz
  obtain ⟨y, hyr⟩ := arms_at hp
  obtain ⟨b, off, rfl, hy, -⟩ := (HH.out.below hb0).arms hyr
  have hA0 := rangeAt_blk hB
  have gy := listOk_at HO.out hyr
  have ey : dist rows a 0 = df y a := dist_at hyr
  have KY := fun w => differencesC y a w gy ga
  rw [← ey] at KY
  have KY' := Lib.hid KY
  have j1 : (0 : Int) < (rows.length : Int) := by omega
  have hp' : (0 < rows.length) = True := by simpa using hp
  clear KY gy ey hyr
  obtain ⟨v0, hv0⟩ : ∃ v, v = dist rows a 0 := ⟨_, rfl⟩
  rw [← hv0] at KY'
  have HV0 := Lib.hid hv0
  clear hv0
  go_wp2_with fail
  refine wp_region_noPanic ?_
  refine wp_region_held_drew (S := (fun w' => w'.rangeAt b (off + 0 * 15) (ac y) ∧ w'.rangeAt w.heap.size 0 (ac a) ∧ Below w2.heap.size w2 w')) (by kernel_rfl) ⟨hy, hA0, (Below.refl _ _).drew⟩ (fun hHeld => ?_)
  refine wpAnyH_take (i := 0) (oi := _) (v := ?_) rfl (by kernel_rfl) (by kernel_rfl) (by kernel_rfl) (fun _ _ _ h => h) (Or.inl ⟨by rfl, ?_⟩) (by assumption) ?_
  rotate_left
  · intro w hSw; clear hSw; first | (go_simp; done) | (go_simp; with_reducible rfl)
  simp only [Act.put, List.getElem_toArray, List.getElem_cons_succ, List.getElem_cons_zero, List.setIfInBounds_toArray, List.set_cons_zero, List.set_cons_succ]
  refine wpAnyH_take (i := 1) (oi := _) (v := ?_) rfl (by kernel_rfl) (by kernel_rfl) (by kernel_rfl) (fun _ _ _ h => h) (Or.inl ⟨by rfl, ?_⟩) (by assumption) ?_
  rotate_left
  · intro w hSw; clear hSw; first | (go_simp; done) | (go_simp; with_reducible rfl)
  simp only [Act.put, List.getElem_toArray, List.getElem_cons_succ, List.getElem_cons_zero, List.setIfInBounds_toArray, List.set_cons_zero, List.set_cons_succ]
  refine wpAnyH_take (i := 2) (oi := _) (v := _) rfl ?g1_11 ?g2_11 ?g3_11 (fun _ _ _ h => h) (yieldsIf_load_mid ?g4_11 _ _ rfl b ?oo_11 ?g5_11 (ac y) _ ?g6_11 Try.underlying34 rfl (info_ac y)) ?g7_11 ?_
  case g5_11 => rfl
  case g1_11 => kernel_rfl
  case g2_11 => kernel_rfl
  case g3_11 => kernel_rfl
  case g6_11 => exact (fun _ h => by simpa using h.1)
  case g4_11 => kernel_rfl
  case g7_11 => assumption
  simp only [Act.put, List.getElem_toArray, List.getElem_cons_succ, List.getElem_cons_zero, List.setIfInBounds_toArray, List.set_cons_zero, List.set_cons_succ]
  refine wpAnyH_take (i := 3) (oi := _) (v := _) rfl ?g1_12 ?g2_12 ?g3_12 (fun _ _ _ h => h) (yieldsIf_load_mid ?g4_12 _ _ rfl w.heap.size ?oo_12 ?g5_12 (ac a) _ ?g6_12 Try.underlying34 rfl (info_ac a)) ?g7_12 ?_
  case g5_12 => rfl
  case g1_12 => kernel_rfl
  case g2_12 => kernel_rfl
  case g3_12 => kernel_rfl
  case g6_12 => exact (fun _ h => h.2.1)
  case g4_12 => kernel_rfl
  case g7_12 => assumption
  simp only [Act.put, List.getElem_toArray, List.getElem_cons_succ, List.getElem_cons_zero, List.setIfInBounds_toArray, List.set_cons_zero, List.set_cons_succ]
  refine wpAnyH_ready (rs := [4]) (by kernel_rfl) (by simp) ?_
  refine AllReadyH.cons (o := _) rfl (fun K hK => ?_) AllReadyH.nil
  go_simp
  refine (KY'.out _).mono ?_
  rintro e x2 ⟨rfl, hx2⟩
  go_wp2_with fail
  refine hK.out _ _ (heldRR hHeld hx2) (fun hHeld => ?_)
  clear hK K
  try simp only [Act.put, List.getElem_toArray, List.getElem_cons_succ, List.getElem_cons_zero, List.setIfInBounds_toArray, List.set_cons_zero, List.set_cons_succ]
  refine wpAnyH_take (i := 5) (oi := _) (v := ?_) rfl (by kernel_rfl) (by kernel_rfl) (by kernel_rfl) (fun _ _ _ h => h) (Or.inl ⟨by rfl, ?_⟩) (by assumption) ?_
  rotate_left
  · intro w hSw; clear hSw; first | (go_simp; done) | (go_simp; with_reducible rfl)
  simp only [Act.put, List.getElem_toArray, List.getElem_cons_succ, List.getElem_cons_zero, List.setIfInBounds_toArray, List.set_cons_zero, List.set_cons_succ]
  refine wpAnyH_take (i := 6) (oi := _) (v := ?_) rfl (by kernel_rfl) (by kernel_rfl) (by kernel_rfl) (fun _ _ _ h => h) (Or.inl ⟨by rfl, ?_⟩) (by assumption) ?_
  rotate_left
  · intro w hSw; clear hSw; first | (go_simp; done) | (go_simp; with_reducible rfl)
  simp only [Act.put, List.getElem_toArray, List.getElem_cons_succ, List.getElem_cons_zero, List.setIfInBounds_toArray, List.set_cons_zero, List.set_cons_succ]
  refine wpAnyH_done (by kernel_rfl) ?_ _
  refine NoPanic.normal ?_
  obtain ⟨-, -, sb⟩ : _ ∧ _ ∧ Below w2.heap.size w2 x2 := (by assumption)
  have hb0 := Below_then hb0 sb
  have hB := heap_keepB hB sb
  clear hy hA0 sb hHeld
  go_wp2_with fail
  go_loopw [7, 8, 32] (fun bi li i wr => ∃ (k j : Nat) (vj : Int), k ≤ rows.length ∧ j < rows.length ∧ i = .int .i64 k ∧ bi = .int .i64 j ∧ li = .int .i64 vj ∧ vj = dist rows a j ∧ j = bestTo (dist rows a) k ∧ wr.heap[w.heap.size]? = some (.cells (ac a).toArray 34 (0, 0)) ∧ Below w.heap.size w wr) (fun _ _ i _ => rows.length - (intOf i).toNat)
  case atStart => exact ⟨0, 0, v0, by omega, hp, rfl, rfl, rfl, HV0.out, rfl, hB, hb0⟩
  case round =>
    clear hB hb0
    obtain ⟨k, j, vj, hk, hjl, rfl, rfl, rfl, hvj, hj, hB', hb⟩ := hrel
    have HVJ := Lib.hid hvj
    clear hvj
    have hA0 := rangeAt_blk hB'
    have HJ := Lib.hid hj
    clear hj
    by_cases hlt : k < rows.length
    · obtain ⟨x, hxr⟩ := arms_at hlt
      obtain ⟨b2, off2, e, hx, -⟩ := (HH.out.below hb).arms hxr
      injection e with e
      injection e with e1 e2
      subst e1 e2
      have gx := listOk_at HO.out hxr
      have ex : dist rows a k = df a x := by rw [dist_at hxr, df_comm]
      have KX := fun w => differencesC a x w ga gx
      rw [← ex] at KX
      have i1 : (k : Int) < (rows.length : Int) := by omega
      have d1 : decide (k < rows.length) = true := by simpa using hlt
      have KX' := Lib.hid KX
      have hD : (dist rows a k < dist rows a j ↔ dist rows a k < dist rows a (bestTo (dist rows a) k)) := by rw [← HJ.out]
      have HD := Lib.hid hD
      clear KX gx ex hxr hD
      obtain ⟨vk, hvk⟩ : ∃ v, v = dist rows a k := ⟨_, rfl⟩
      rw [← hvk] at KX'
      have HVK := Lib.hid hvk
      clear hvk
      have hsz := heap_lt hB'
      by_cases hd : vk < vj
      all_goals
        go_wp2_with (first | (refine ldA rfl _ rfl b _ rfl x hx ?_) | (refine stA rfl _ _ rfl _ rfl x rfl _ (heap_hit _ _ _ rfl) (by decide) ?_; intro wn hn1 hn2 hn3; have hn4 := hn3 _ _ (Nat.le_refl _) (Below_al (Below.refl _ _) _); have hn5 := rangeAt_below hA0 hn4) | (refine ldA rfl _ rfl _ _ rfl _ (by assumption) ?_) | fail)
        refine (KX'.out _).mono ?_
        rintro e w5 ⟨rfl, hb5⟩
        have hn6 := Below_then hb (Below_then hn4 hb5)
        have hn7 := heap_keepB hB' (Below_then hn4 hb5)
        clear hn1 hn2 hn3 hn4 hn5 hb5 hx hA0
        go_wp2
        go_roundw
        case rel =>
          first
          | exact ⟨k + 1, k, vk, by omega, by omega, by go_num, rfl, rfl, HVK.out, (bestTo_yes (HD.out.1 (by rw [← HVK.out, ← HVJ.out]; omega))).symm, hn7, hn6⟩
          | exact ⟨k + 1, j, vj, by omega, by omega, by go_num, rfl, rfl, HVJ.out, by rw [bestTo_no (fun e => by have := HD.out.2 e; rw [← HVK.out, ← HVJ.out] at this; omega)]; exact HJ.out, hn7, hn6⟩
        case measure => simp [intOf]; omega
    · obtain rfl : k = rows.length := by omega
      have d1 : decide (rows.length < rows.length) = false := by simp
      go_wp2
      go_ret3
      refine ⟨?_, hb⟩
      show Ending.returned (.tuple #[.int .i64 j, .int .i64 vj, .bool true]) = _
      rw [HVJ.out, ← HJ.out]
theorem implNearest_any (A : Option Addr) (c : Nat) (rows : List ArmsD) (a : ArmsD) (w : World) (h : RdR 15 w A (acs rows)) (hl : rows.length ≤ 1048576) : Calls Try.prog 22 #[.slice A rows.length c, .agg (ac a).toArray] w fun e w' => e = .returned (.tuple #[.int .i64 (nearI rows a), .int .i64 (nearD rows a), .bool (nearOk rows a)]) ∧ Below w.heap.size w w' := by
  cases hn : nearOk rows a
  · rw [← hn]
    exact implNearestArms_no A c rows a w h hl hn
  · rw [← hn]
    exact implNearest_yes A c rows a w h hl hn
end Go.Proofs.Ytpboheaiigbfbaa
