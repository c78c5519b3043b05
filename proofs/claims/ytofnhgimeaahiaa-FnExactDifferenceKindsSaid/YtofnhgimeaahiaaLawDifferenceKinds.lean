/- FnExactDifferenceKinds: for all arguments DifferenceKinds of the program returns what DifferenceKinds of the reference returns. No condition. -/
import Derived.Test.YtofnhgimeaahiaaRows
import Derived.Test.YtofnhgimeaahiaaKinds4
import Derived.Test.YtofnhgimeaahiaaToArms
import Derived.Test.YtofnhgimeaahiaaAOpen
namespace Go.Proofs.Ytofnhgimeaahiaa.fnExactDifferenceKinds
open Go.ChangeShapes Go.WideShapes Go.ChangeAt Go.RowKit
set_option linter.unusedVariables false

theorem heldR2 {a w w' : World} {b o b' o' : Nat} {u u' : List Value} (h : w.rangeAt b o u ∧ w.rangeAt b' o' u' ∧ Below a.heap.size a w) (hb : Below w.heap.size w w') : w'.rangeAt b o u ∧ w'.rangeAt b' o' u' ∧ Below a.heap.size a w' := ⟨rangeAt_below h.1 hb, rangeAt_below h.2.1 hb, Below_then h.2.2 hb⟩
theorem eqI {A A' : Option Addr} {c c' B B' : Nat} (xs : List Int) (w : World) (h1 : OwnI w B 3 (.slice A xs.length c) xs) (h2 : OwnI w B' 3 (.slice A' xs.length c') xs) (hx : xs.length ≤ 1048576) :
    Calls Try.prog 11 #[.slice A xs.length c, .slice A' xs.length c'] w fun e w' => e = .returned (.bool true) ∧ Below w.heap.size w w' := by
  obtain ⟨A1, c1, e1, r1⟩ := h1.form
  obtain ⟨A2, c2, e2, r2⟩ := h2.form
  injection e1 with e1 _ e1'
  injection e2 with e2 _ e2'
  subst e1 e1' e2 e2'
  exact (eqIntS_any _ _ _ _ xs xs w r1 r2 (by omega) (by omega)).mono fun _ _ ⟨he, hw⟩ => ⟨by rw [he]; simp, hw⟩
theorem heldI {A : Option Addr} {c B : Nat} (xs : List Int) (w : World) (h : OwnI w B 3 (.slice A xs.length c) (marks 1 xs.length)) (hx : xs.length ≤ 1048576) :
    Calls Try.prog 13 #[.slice A xs.length c, .int .i64 1] w fun e w' => e = .returned (.int .i64 (1 + xs.length)) ∧ Below w.heap.size w w' := by
  obtain ⟨A1, c1, e1, r1⟩ := h.form
  rw [marks_len] at e1
  injection e1 with e1 _ e1'
  subst e1 e1'
  have := heldIntS_any A c (marks 1 xs.length) 1 w r1 (by rw [marks_len]; omega) (by omega) (by omega)
  rw [heldR_marks, marks_len] at this
  exact this
set_option maxHeartbeats 4000000 in
theorem walk (a : ArmsD) (wa : ∀ z ∈ [a.d, a.l, a.p, a.q, a.o, a.li, a.t, a.c1, a.k1, a.a1, a.t1, a.c2, a.k2, a.a2, a.t2], (Lit.int .i64 z).wf = true) (b : ArmsD) (wb : ∀ z ∈ [b.d, b.l, b.p, b.q, b.o, b.li, b.t, b.c1, b.k1, b.a1, b.t1, b.c2, b.k2, b.a2, b.t2], (Lit.int .i64 z).wf = true) (w : World) :
    Calls Try.prog 3 #[.agg (ac a).toArray, .agg (ac b).toArray] w fun e w' => e = .returned (.bool true) ∧ Below w.heap.size w w' := by
  clear wa wb
  obtain ⟨y0, hy0⟩ : ∃ x, x = (w.alloc (.cells (ac a).toArray 27)).alloc (.cells (ac b).toArray 27) := ⟨_, rfl⟩
  have hRa : y0.rangeAt w.heap.size 0 (ac a) := by rw [hy0]; exact rangeAt_blk (heap_keepA (heap_hit _ _ _ rfl) _)
  have hRb : y0.rangeAt (w.heap.size + 1) 0 (ac b) := by rw [hy0]; exact rangeAt_blk (heap_hit _ _ _ (by simp))
  have hT : Below w.heap.size w y0 := by rw [hy0]; (repeat (first | exact Below.refl _ _ | assumption | refine Below_al ?_ _ | refine Below.drew ?_ | refine Below_then ?_ (by assumption) | refine Below.setCell ?_ (by first | omega | (simp; done) | (simp; omega)) _))
  obtain ⟨zs, ok, hzl, KS, KI⟩ : ∃ (zs : List Int) (ok : Bool), zs.length ≤ 1000 ∧ (∀ (w : World), Calls Try.prog 8 #[.agg (ac a).toArray, .agg (ac b).toArray] w (IntsOk w zs ok)) ∧ (∀ (w : World), Calls Try.prog 10 #[.agg (ac a).toArray, .agg (ac b).toArray] w (IntsOk w zs ok)) := ⟨_, _, Nat.le_trans (kindR_len a b) (by omega), fun w => specKinds_any a b w, fun w => implKinds_any a b w⟩
  have KS' := Lib.hid KS
  have KI' := Lib.hid KI
  have hM : ¬ (1 + (zs.length : Int) < 0) := by omega
  have HY := Lib.hid hy0
  clear KS KI hy0
  cases ok
  all_goals
    go_enter Try.func3, Try.ntmps3
    go_upto_region 1 with (fail)
    rw [← HY.out]
    refine wp_region_noPanic ?_
    refine wp_region_held_drew (S := (fun w' => w'.rangeAt w.heap.size 0 (ac a) ∧ w'.rangeAt (w.heap.size + 1) 0 (ac b) ∧ Below y0.heap.size y0 w')) (by kernel_rfl) ⟨hRa, hRb, (Below.refl _ _).drew⟩ (fun hHeld => ?_)
    refine wpAnyH_take (i := 0) (oi := _) (v := _) rfl ?g1_9 ?g2_9 ?g3_9 (fun _ _ _ h => h) (yieldsIf_load_mid ?g4_9 _ _ rfl w.heap.size ?oo_9 ?g5_9 (ac a) _ ?g6_9 Try.underlying27 rfl (info_acL a)) ?g7_9 ?_
    case g5_9 => rfl
    case g1_9 => kernel_rfl
    case g2_9 => kernel_rfl
    case g3_9 => kernel_rfl
    case g6_9 => exact (fun _ h => h.1)
    case g4_9 => kernel_rfl
    case g7_9 => assumption
    simp only [Act.put, List.getElem_toArray, List.getElem_cons_succ, List.getElem_cons_zero, List.setIfInBounds_toArray, List.set_cons_zero, List.set_cons_succ]
    refine wpAnyH_take (i := 2) (oi := _) (v := _) rfl ?g1_10 ?g2_10 ?g3_10 (fun _ _ _ h => h) (yieldsIf_load_mid ?g4_10 _ _ rfl (w.heap.size + 1) ?oo_10 ?g5_10 (ac b) _ ?g6_10 Try.underlying27 rfl (info_acL b)) ?g7_10 ?_
    case g5_10 => rfl
    case g1_10 => kernel_rfl
    case g2_10 => kernel_rfl
    case g3_10 => kernel_rfl
    case g6_10 => exact (fun _ h => h.2.1)
    case g4_10 => kernel_rfl
    case g7_10 => assumption
    simp only [Act.put, List.getElem_toArray, List.getElem_cons_succ, List.getElem_cons_zero, List.setIfInBounds_toArray, List.set_cons_zero, List.set_cons_succ]
    refine wpAnyH_ready (rs := [1]) (by kernel_rfl) (by simp) ?_
    refine AllReadyH.cons (o := _) rfl (fun K hK => ?_) AllReadyH.nil
    go_simp
    refine (toArmsC a _).mono ?_
    rintro e s1 ⟨rfl, sh1⟩
    go_wp2_with fail
    refine hK.out _ _ (heldR2 hHeld sh1) (fun hHeld => ?_)
    clear hK K
    try simp only [Act.put, List.getElem_toArray, List.getElem_cons_succ, List.getElem_cons_zero, List.setIfInBounds_toArray, List.set_cons_zero, List.set_cons_succ]
    refine wpAnyH_ready (rs := [3]) (by kernel_rfl) (by simp) ?_
    refine AllReadyH.cons (o := _) rfl (fun K hK => ?_) AllReadyH.nil
    go_simp
    refine (toArmsC b _).mono ?_
    rintro e s2 ⟨rfl, sh2⟩
    go_wp2_with fail
    refine hK.out _ _ (heldR2 hHeld sh2) (fun hHeld => ?_)
    clear hK K
    try simp only [Act.put, List.getElem_toArray, List.getElem_cons_succ, List.getElem_cons_zero, List.setIfInBounds_toArray, List.set_cons_zero, List.set_cons_succ]
    refine wpAnyH_ready (rs := [4]) (by kernel_rfl) (by simp) ?_
    refine AllReadyH.cons (o := _) rfl (fun K hK => ?_) AllReadyH.nil
    go_simp
    refine (KS'.out _).mono ?_
    rintro e s3 ⟨sv, rfl, hoW, sh3⟩
    obtain ⟨sA, sc, rfl, -⟩ := hoW.form
    go_wp2_with fail
    refine hK.out _ _ (heldR2 hHeld sh3) (fun hHeld => ?_)
    clear hK K
    try simp only [Act.put, List.getElem_toArray, List.getElem_cons_succ, List.getElem_cons_zero, List.setIfInBounds_toArray, List.set_cons_zero, List.set_cons_succ]
    refine wpAnyH_take (i := 5) (oi := _) (v := ?_) rfl (by kernel_rfl) (by kernel_rfl) (by kernel_rfl) (fun _ _ _ h => h) (Or.inl ⟨by rfl, ?_⟩) (by assumption) ?_
    rotate_left
    · intro w hSw; clear hSw; first | (go_simp; done) | (go_simp; with_reducible rfl)
    simp only [Act.put, List.getElem_toArray, List.getElem_cons_succ, List.getElem_cons_zero, List.setIfInBounds_toArray, List.set_cons_zero, List.set_cons_succ]
    refine wpAnyH_take (i := 6) (oi := _) (v := ?_) rfl (by kernel_rfl) (by kernel_rfl) (by kernel_rfl) (fun _ _ _ h => h) (Or.inl ⟨by rfl, ?_⟩) (by assumption) ?_
    rotate_left
    · intro w hSw; clear hSw; first | (go_simp; done) | (go_simp; with_reducible rfl)
    simp only [Act.put, List.getElem_toArray, List.getElem_cons_succ, List.getElem_cons_zero, List.setIfInBounds_toArray, List.set_cons_zero, List.set_cons_succ]
    refine wpAnyH_take (i := 7) (oi := _) (v := ?_) rfl (by kernel_rfl) (by kernel_rfl) (by kernel_rfl) (fun _ _ _ h => h) (Or.inl ⟨by rfl, ?_⟩) (by assumption) ?_
    rotate_left
    · intro w hSw; clear hSw; first | (go_simp; done) | (go_simp; with_reducible rfl)
    simp only [Act.put, List.getElem_toArray, List.getElem_cons_succ, List.getElem_cons_zero, List.setIfInBounds_toArray, List.set_cons_zero, List.set_cons_succ]
    refine wpAnyH_take (i := 8) (oi := _) (v := ?_) rfl (by kernel_rfl) (by kernel_rfl) (by kernel_rfl) (fun _ _ _ h => h) (Or.inl ⟨by rfl, ?_⟩) (by assumption) ?_
    rotate_left
    · intro w hSw; clear hSw; first | (go_simp; done) | (go_simp; with_reducible rfl)
    simp only [Act.put, List.getElem_toArray, List.getElem_cons_succ, List.getElem_cons_zero, List.setIfInBounds_toArray, List.set_cons_zero, List.set_cons_succ]
    refine wpAnyH_take (i := 9) (oi := _) (v := ?_) rfl (by kernel_rfl) (by kernel_rfl) (by kernel_rfl) (fun _ _ _ h => h) (Or.inl ⟨by rfl, ?_⟩) (by assumption) ?_
    rotate_left
    · intro w hSw; clear hSw; first | (go_simp; done) | (go_simp; with_reducible rfl)
    simp only [Act.put, List.getElem_toArray, List.getElem_cons_succ, List.getElem_cons_zero, List.setIfInBounds_toArray, List.set_cons_zero, List.set_cons_succ]
    refine wpAnyH_done (by kernel_rfl) ?_ _
    refine NoPanic.normal ?_
    obtain ⟨hRa, hRb, sb⟩ : _ ∧ _ ∧ Below y0.heap.size y0 s3 := (by assumption)
    replace hT := Below_then hT sb
    have hs3s : w.heap.size + 2 ≤ s3.heap.size := by
      have h1 := sb.size
      have h2 : y0.heap.size = w.heap.size + 2 := (by rw [HY.out]; simp)
      omega
    clear sh1 sh2 sh3 sb hHeld
    have hoW0 := hoW
    go_wp2_with fail
    refine wp_region_noPanic ?_
    refine wp_region_held_drew (S := (fun w' => w'.rangeAt w.heap.size 0 (ac a) ∧ w'.rangeAt (w.heap.size + 1) 0 (ac b) ∧ Below s3.heap.size s3 w')) (by kernel_rfl) ⟨hRa, hRb, (Below.refl _ _).drew⟩ (fun hHeld => ?_)
    refine wpAnyH_take (i := 0) (oi := _) (v := _) rfl ?g1_11 ?g2_11 ?g3_11 (fun _ _ _ h => h) (yieldsIf_load_mid ?g4_11 _ _ rfl w.heap.size ?oo_11 ?g5_11 (ac a) _ ?g6_11 Try.underlying27 rfl (info_acL a)) ?g7_11 ?_
    case g5_11 => rfl
    case g1_11 => kernel_rfl
    case g2_11 => kernel_rfl
    case g3_11 => kernel_rfl
    case g6_11 => exact (fun _ h => h.1)
    case g4_11 => kernel_rfl
    case g7_11 => assumption
    simp only [Act.put, List.getElem_toArray, List.getElem_cons_succ, List.getElem_cons_zero, List.setIfInBounds_toArray, List.set_cons_zero, List.set_cons_succ]
    refine wpAnyH_take (i := 2) (oi := _) (v := _) rfl ?g1_12 ?g2_12 ?g3_12 (fun _ _ _ h => h) (yieldsIf_load_mid ?g4_12 _ _ rfl (w.heap.size + 1) ?oo_12 ?g5_12 (ac b) _ ?g6_12 Try.underlying27 rfl (info_acL b)) ?g7_12 ?_
    case g5_12 => rfl
    case g1_12 => kernel_rfl
    case g2_12 => kernel_rfl
    case g3_12 => kernel_rfl
    case g6_12 => exact (fun _ h => h.2.1)
    case g4_12 => kernel_rfl
    case g7_12 => assumption
    simp only [Act.put, List.getElem_toArray, List.getElem_cons_succ, List.getElem_cons_zero, List.setIfInBounds_toArray, List.set_cons_zero, List.set_cons_succ]
    refine wpAnyH_ready (rs := [1]) (by kernel_rfl) (by simp) ?_
    refine AllReadyH.cons (o := _) rfl (fun K hK => ?_) AllReadyH.nil
    go_simp
    refine (toArmsC a _).mono ?_
    rintro e i1 ⟨rfl, ih1⟩
    go_wp2_with fail
    refine hK.out _ _ (heldR2 hHeld ih1) (fun hHeld => ?_)
    clear hK K
    try simp only [Act.put, List.getElem_toArray, List.getElem_cons_succ, List.getElem_cons_zero, List.setIfInBounds_toArray, List.set_cons_zero, List.set_cons_succ]
    refine wpAnyH_ready (rs := [3]) (by kernel_rfl) (by simp) ?_
    refine AllReadyH.cons (o := _) rfl (fun K hK => ?_) AllReadyH.nil
    go_simp
    refine (toArmsC b _).mono ?_
    rintro e i2 ⟨rfl, ih2⟩
    go_wp2_with fail
    refine hK.out _ _ (heldR2 hHeld ih2) (fun hHeld => ?_)
    clear hK K
    try simp only [Act.put, List.getElem_toArray, List.getElem_cons_succ, List.getElem_cons_zero, List.setIfInBounds_toArray, List.set_cons_zero, List.set_cons_succ]
    refine wpAnyH_ready (rs := [4]) (by kernel_rfl) (by simp) ?_
    refine AllReadyH.cons (o := _) rfl (fun K hK => ?_) AllReadyH.nil
    go_simp
    refine (KI'.out _).mono ?_
    rintro e i3 ⟨iv, rfl, hoG, ih3⟩
    have hoG0 := hoG
    obtain ⟨iA, ic, rfl, -⟩ := hoG.form
    go_wp2_with fail
    refine hK.out _ _ (heldR2 hHeld ih3) (fun hHeld => ?_)
    clear hK K
    try simp only [Act.put, List.getElem_toArray, List.getElem_cons_succ, List.getElem_cons_zero, List.setIfInBounds_toArray, List.set_cons_zero, List.set_cons_succ]
    refine wpAnyH_take (i := 5) (oi := _) (v := ?_) rfl (by kernel_rfl) (by kernel_rfl) (by kernel_rfl) (fun _ _ _ h => h) (Or.inl ⟨by rfl, ?_⟩) (by assumption) ?_
    rotate_left
    · intro w hSw; clear hSw; first | (go_simp; done) | (go_simp; with_reducible rfl)
    simp only [Act.put, List.getElem_toArray, List.getElem_cons_succ, List.getElem_cons_zero, List.setIfInBounds_toArray, List.set_cons_zero, List.set_cons_succ]
    refine wpAnyH_take (i := 6) (oi := _) (v := ?_) rfl (by kernel_rfl) (by kernel_rfl) (by kernel_rfl) (fun _ _ _ h => h) (Or.inl ⟨by rfl, ?_⟩) (by assumption) ?_
    rotate_left
    · intro w hSw; clear hSw; first | (go_simp; done) | (go_simp; with_reducible rfl)
    simp only [Act.put, List.getElem_toArray, List.getElem_cons_succ, List.getElem_cons_zero, List.setIfInBounds_toArray, List.set_cons_zero, List.set_cons_succ]
    refine wpAnyH_take (i := 7) (oi := _) (v := ?_) rfl (by kernel_rfl) (by kernel_rfl) (by kernel_rfl) (fun _ _ _ h => h) (Or.inl ⟨by rfl, ?_⟩) (by assumption) ?_
    rotate_left
    · intro w hSw; clear hSw; first | (go_simp; done) | (go_simp; with_reducible rfl)
    simp only [Act.put, List.getElem_toArray, List.getElem_cons_succ, List.getElem_cons_zero, List.setIfInBounds_toArray, List.set_cons_zero, List.set_cons_succ]
    refine wpAnyH_take (i := 8) (oi := _) (v := ?_) rfl (by kernel_rfl) (by kernel_rfl) (by kernel_rfl) (fun _ _ _ h => h) (Or.inl ⟨by rfl, ?_⟩) (by assumption) ?_
    rotate_left
    · intro w hSw; clear hSw; first | (go_simp; done) | (go_simp; with_reducible rfl)
    simp only [Act.put, List.getElem_toArray, List.getElem_cons_succ, List.getElem_cons_zero, List.setIfInBounds_toArray, List.set_cons_zero, List.set_cons_succ]
    refine wpAnyH_take (i := 9) (oi := _) (v := ?_) rfl (by kernel_rfl) (by kernel_rfl) (by kernel_rfl) (fun _ _ _ h => h) (Or.inl ⟨by rfl, ?_⟩) (by assumption) ?_
    rotate_left
    · intro w hSw; clear hSw; first | (go_simp; done) | (go_simp; with_reducible rfl)
    simp only [Act.put, List.getElem_toArray, List.getElem_cons_succ, List.getElem_cons_zero, List.setIfInBounds_toArray, List.set_cons_zero, List.set_cons_succ]
    refine wpAnyH_done (by kernel_rfl) ?_ _
    refine NoPanic.normal ?_
    have hsi : s3.heap.size ≤ i2.heap.size := Nat.le_trans (show s3.heap.size ≤ i1.heap.size from ih1.size) ih2.size
    obtain ⟨hRa, hRb, sb⟩ : _ ∧ _ ∧ Below s3.heap.size s3 i3 := (by assumption)
    replace hT := Below_then hT sb
    replace hoW := hoW.below sb
    clear ih1 ih2 ih3 sb hHeld
    have HSZ := Lib.hid (show w.heap.size + 2 ≤ s3.heap.size from by have := hs3s; omega)
    have hap := hoW0.apart hoG0 hsi
    clear hoW0

    have HAP := Lib.hid hap
    have hgt : ∀ k, Value.ownBlock (.slice iA zs.length ic) = some k → s3.heap.size ≤ k := fun k hk => Nat.le_trans hsi (hoG0.lt k hk).1
    have hsz3 : w.heap.size + 2 ≤ s3.heap.size := HSZ.out
    have HGT := Lib.hid hgt
    clear hap hgt hoG0
    go_wp2_with fail
    refine (eqI zs _ hoG hoW (by omega)).mono ?_
    rintro e v4 ⟨rfl, hx⟩
    replace hT := Below_then hT hx
    replace hRa := rangeAt_below hRa hx
    replace hRb := rangeAt_below hRb hx
    replace hoW := hoW.below hx
    replace hoG := hoG.below hx
    clear hx
    go_wp2_with fail
    refine (markIntS_any _ _ zs 1 _ hoG (by omega) (by omega) (by omega)).mono ?_
    rintro e v9 ⟨rfl, hmG, hg9⟩
    replace hRa := rangeAt_grown hRa hg9 (fun e => by have := HGT.out _ e; omega)
    replace hRb := rangeAt_grown hRb hg9 (fun e => by have := HGT.out _ e; omega)
    replace hT := hT.grown hg9 hT.size (fun k hk => by have := HGT.out k hk; omega)
    replace hoW := hoW.other hg9 HAP.out
    clear hg9 hoG
    go_wp2_with fail
    refine (heldI zs _ hmG (by omega)).mono ?_
    rintro e va ⟨rfl, hx⟩
    replace hT := Below_then hT hx
    replace hRa := rangeAt_below hRa hx
    replace hRb := rangeAt_below hRb hx
    replace hoW := hoW.below hx
    replace hmG := hmG.below hx
    clear hx
    go_wp2_with fail
    refine wp_region_noPanic ?_
    refine wp_region_held_drew (S := (fun w' => w'.rangeAt w.heap.size 0 (ac a) ∧ w'.rangeAt (w.heap.size + 1) 0 (ac b) ∧ Below va.heap.size va w')) (by kernel_rfl) ⟨hRa, hRb, (Below.refl _ _).drew⟩ (fun hHeld => ?_)
    refine wpAnyH_take (i := 0) (oi := _) (v := _) rfl ?g1_13 ?g2_13 ?g3_13 (fun _ _ _ h => h) (yieldsIf_load_mid ?g4_13 _ _ rfl w.heap.size ?oo_13 ?g5_13 (ac a) _ ?g6_13 Try.underlying27 rfl (info_acL a)) ?g7_13 ?_
    case g5_13 => rfl
    case g1_13 => kernel_rfl
    case g2_13 => kernel_rfl
    case g3_13 => kernel_rfl
    case g6_13 => exact (fun _ h => h.1)
    case g4_13 => kernel_rfl
    case g7_13 => assumption
    simp only [Act.put, List.getElem_toArray, List.getElem_cons_succ, List.getElem_cons_zero, List.setIfInBounds_toArray, List.set_cons_zero, List.set_cons_succ]
    refine wpAnyH_take (i := 2) (oi := _) (v := _) rfl ?g1_14 ?g2_14 ?g3_14 (fun _ _ _ h => h) (yieldsIf_load_mid ?g4_14 _ _ rfl (w.heap.size + 1) ?oo_14 ?g5_14 (ac b) _ ?g6_14 Try.underlying27 rfl (info_acL b)) ?g7_14 ?_
    case g5_14 => rfl
    case g1_14 => kernel_rfl
    case g2_14 => kernel_rfl
    case g3_14 => kernel_rfl
    case g6_14 => exact (fun _ h => h.2.1)
    case g4_14 => kernel_rfl
    case g7_14 => assumption
    simp only [Act.put, List.getElem_toArray, List.getElem_cons_succ, List.getElem_cons_zero, List.setIfInBounds_toArray, List.set_cons_zero, List.set_cons_succ]
    refine wpAnyH_ready (rs := [1]) (by kernel_rfl) (by simp) ?_
    refine AllReadyH.cons (o := _) rfl (fun K hK => ?_) AllReadyH.nil
    go_simp
    refine (toArmsC a _).mono ?_
    rintro e t1 ⟨rfl, th1⟩
    go_wp2_with fail
    refine hK.out _ _ (heldR2 hHeld th1) (fun hHeld => ?_)
    clear hK K
    try simp only [Act.put, List.getElem_toArray, List.getElem_cons_succ, List.getElem_cons_zero, List.setIfInBounds_toArray, List.set_cons_zero, List.set_cons_succ]
    refine wpAnyH_ready (rs := [3]) (by kernel_rfl) (by simp) ?_
    refine AllReadyH.cons (o := _) rfl (fun K hK => ?_) AllReadyH.nil
    go_simp
    refine (toArmsC b _).mono ?_
    rintro e t2 ⟨rfl, th2⟩
    go_wp2_with fail
    refine hK.out _ _ (heldR2 hHeld th2) (fun hHeld => ?_)
    clear hK K
    try simp only [Act.put, List.getElem_toArray, List.getElem_cons_succ, List.getElem_cons_zero, List.setIfInBounds_toArray, List.set_cons_zero, List.set_cons_succ]
    refine wpAnyH_ready (rs := [4]) (by kernel_rfl) (by simp) ?_
    refine AllReadyH.cons (o := _) rfl (fun K hK => ?_) AllReadyH.nil
    go_simp
    refine (KI'.out _).mono ?_
    rintro e t3 ⟨tv, rfl, hoH, th3⟩
    obtain ⟨tA, tc, rfl, -⟩ := hoH.form
    go_wp2_with fail
    refine hK.out _ _ (heldR2 hHeld th3) (fun hHeld => ?_)
    clear hK K
    try simp only [Act.put, List.getElem_toArray, List.getElem_cons_succ, List.getElem_cons_zero, List.setIfInBounds_toArray, List.set_cons_zero, List.set_cons_succ]
    refine wpAnyH_take (i := 5) (oi := _) (v := ?_) rfl (by kernel_rfl) (by kernel_rfl) (by kernel_rfl) (fun _ _ _ h => h) (Or.inl ⟨by rfl, ?_⟩) (by assumption) ?_
    rotate_left
    · intro w hSw; clear hSw; first | (go_simp; done) | (go_simp; with_reducible rfl)
    simp only [Act.put, List.getElem_toArray, List.getElem_cons_succ, List.getElem_cons_zero, List.setIfInBounds_toArray, List.set_cons_zero, List.set_cons_succ]
    refine wpAnyH_take (i := 6) (oi := _) (v := ?_) rfl (by kernel_rfl) (by kernel_rfl) (by kernel_rfl) (fun _ _ _ h => h) (Or.inl ⟨by rfl, ?_⟩) (by assumption) ?_
    rotate_left
    · intro w hSw; clear hSw; first | (go_simp; done) | (go_simp; with_reducible rfl)
    simp only [Act.put, List.getElem_toArray, List.getElem_cons_succ, List.getElem_cons_zero, List.setIfInBounds_toArray, List.set_cons_zero, List.set_cons_succ]
    refine wpAnyH_take (i := 7) (oi := _) (v := ?_) rfl (by kernel_rfl) (by kernel_rfl) (by kernel_rfl) (fun _ _ _ h => h) (Or.inl ⟨by rfl, ?_⟩) (by assumption) ?_
    rotate_left
    · intro w hSw; clear hSw; first | (go_simp; done) | (go_simp; with_reducible rfl)
    simp only [Act.put, List.getElem_toArray, List.getElem_cons_succ, List.getElem_cons_zero, List.setIfInBounds_toArray, List.set_cons_zero, List.set_cons_succ]
    refine wpAnyH_take (i := 8) (oi := _) (v := ?_) rfl (by kernel_rfl) (by kernel_rfl) (by kernel_rfl) (fun _ _ _ h => h) (Or.inl ⟨by rfl, ?_⟩) (by assumption) ?_
    rotate_left
    · intro w hSw; clear hSw; first | (go_simp; done) | (go_simp; with_reducible rfl)
    simp only [Act.put, List.getElem_toArray, List.getElem_cons_succ, List.getElem_cons_zero, List.setIfInBounds_toArray, List.set_cons_zero, List.set_cons_succ]
    refine wpAnyH_take (i := 9) (oi := _) (v := ?_) rfl (by kernel_rfl) (by kernel_rfl) (by kernel_rfl) (fun _ _ _ h => h) (Or.inl ⟨by rfl, ?_⟩) (by assumption) ?_
    rotate_left
    · intro w hSw; clear hSw; first | (go_simp; done) | (go_simp; with_reducible rfl)
    simp only [Act.put, List.getElem_toArray, List.getElem_cons_succ, List.getElem_cons_zero, List.setIfInBounds_toArray, List.set_cons_zero, List.set_cons_succ]
    refine wpAnyH_done (by kernel_rfl) ?_ _
    refine NoPanic.normal ?_
    obtain ⟨hRa, hRb, sb⟩ : _ ∧ _ ∧ Below va.heap.size va t3 := (by assumption)
    replace hT := Below_then hT sb
    replace hoW := hoW.below sb
    replace hmG := hmG.below sb
    clear th1 th2 th3 sb hHeld
    go_wp2_with fail
    refine (eqI zs _ hoH hoW (by omega)).mono ?_
    rintro e vb ⟨rfl, hx⟩
    replace hT := Below_then hT hx
    replace hmG := hmG.below hx
    clear hx
    clear hoH hoW
    go_wp2_with fail
    refine (heldI zs _ hmG (by omega)).mono ?_
    rintro e vc ⟨rfl, hx⟩
    replace hT := Below_then hT hx
    clear hx
    go_wp2
    go_ret
    exact ⟨rfl, hT⟩

/-! ### The row's step: written by a program of mine (frame.py) after the kit's shell -/
theorem laidOut : laidOutB Try.prog = true := by kernel_rfl
set_option maxRecDepth 100000 in
theorem lifted (os : Os) (started : os.Started) (H : Type) (enc : TypeId × Value → H) :
    ReturnsInHanded {} Try.checked os 3 .any (Rows.fnExactDifferenceKindsSpec.pre6 enc Try.prog Try.f3 Rows.fnExactDifferenceKindsRow.domain false) (Rows.fnExactDifferenceKindsSpec.post enc Try.prog Try.f3 false true false false) := by
  refine returnsInHanded_of_change (C := Try.checked) own started (by kernel_rfl) Try.func3
    (ChangeSpec.witness6 (enc := enc) (C := Try.checked) false ⟨#[], #[.agg #[.int .i64 0, .int .i64 0, .int .i64 0, .int .i64 0, .int .i64 0, .int .i64 0, .int .i64 0, .int .i64 0, .int .i64 0, .int .i64 0, .int .i64 0, .int .i64 0, .int .i64 0, .int .i64 0, .int .i64 0], .agg #[.int .i64 0, .int .i64 0, .int .i64 0, .int .i64 0, .int .i64 0, .int .i64 0, .int .i64 0, .int .i64 0, .int .i64 0, .int .i64 0, .int .i64 0, .int .i64 0, .int .i64 0, .int .i64 0, .int .i64 0]], []⟩ 8 (by kernel_rfl) (by kernel_rfl) (by kernel_rfl) (by kernel_rfl)) ?_
  intro W base args ds gs before hval0 hW hcnd _
  have hval : ∀ (j : Nat) t v, Try.f3.params[j]? = some t → args[j]? = some v → Value.okWide Try.prog W .any base t v := hval0
  have hW' := hW
  obtain ⟨p, q, hA0, hV, rfl, hfz, hnd⟩ := hW
  have hA : DataW.TrodAll enc Try.prog W 0 (fun _ => true) true Try.f3.params.toList args.toList ds p := hA0
  rw [Try.params3] at hA hval
  obtain ⟨v0, vs0, d0, ds0, p0, q0, hargs, rfl, rfl, h0, r0⟩ := trodAll_cons hA
  obtain ⟨v1, vs1, d1, ds1, p1, q1, rfl, rfl, rfl, h1, r1⟩ := trodAll_cons r0
  obtain ⟨rfl, rfl, rfl⟩ := trodAll_nil r1
  obtain rfl : args = #[v0, v1] := by cases args; simp_all
  obtain ⟨rfl, rfl⟩ := trodVars_none hV
  have k0 := h0
  have lt0 : ∀ x ∈ p0, x.block < W.heap.size := by obtain ⟨m, hm⟩ := k0; exact DataW.trod_lt m _ _ _ hm
  obtain ⟨a0, rfl, w0⟩ := openArms (hval 0 27 v0 rfl rfl) h0
  have k1 := h1
  have lt1 : ∀ x ∈ p1, x.block < W.heap.size := by obtain ⟨m, hm⟩ := k1; exact DataW.trod_lt m _ _ _ hm
  obtain ⟨a1, rfl, w1⟩ := openArms (hval 1 27 v1 rfl rfl) h1
  clear hA0 hval0
  refine (walk a0 w0 a1 w1 W).mono fun e W' ⟨he, bel⟩ => ?_
  subst he
  exact ⟨_, rfl, _, _, _, [], _, [], hW', trodAll_mk1 (shut_bool Try.underlying4 _), (trodAll_cons_mk (Below.trod laidOut (by kernel_rfl) (of_decide_eq_true (by kernel_rfl)) k0 bel lt0) (trodAll_cons_mk (Below.trod laidOut (by kernel_rfl) (of_decide_eq_true (by kernel_rfl)) k1 bel lt1) trodAll_mk0)), rfl, bel.frame _, fun h => by cases h⟩

theorem over : Rows.fnExactDifferenceKindsRow.holds Try.pinned (OpenSpec.ofChange Rows.fnExactDifferenceKindsSpec) :=
  OpenClaim.holds_of_wide 3 Try.f3 rfl rfl rfl rfl rfl rfl rfl ⟨rfl, rfl, rfl, rfl, rfl⟩ rfl rfl rfl rfl rfl (by kernel_rfl) Try.func3 (by kernel_rfl)
    (of_decide_eq_true (by kernel_rfl)) (by unfold Func.isWrapper; first | (rw [if_pos (by decide +kernel)]; kernel_rfl) | (rw [if_neg (by decide +kernel)]; exact ⟨rfl, rfl⟩))
    (fun os started H enc _ => lifted os started H enc)

theorem proved : Rows.FnExactDifferenceKindsSaid := over
#print axioms proved

end Go.Proofs.Ytofnhgimeaahiaa.fnExactDifferenceKinds
