/- Contracts: DifferenceKinds of the reference: valid arms; both sides whole. -/
import Derived.Test.YtofnhgimeaahiaaKinds3
namespace Go.Proofs.Ytofnhgimeaahiaa
open Go.ChangeShapes Go.WideShapes Go.ChangeAt Go.RowKit
set_option linter.unusedVariables false
set_option linter.unusedSimpArgs false

theorem lenZ : ([] : List Int).length ≤ 1099511627776 := by decide
theorem lenA (q : Bool) (k : Int) : (oneK q k).length ≤ 1099511627776 := Nat.le_trans (oneK_len q k) (by decide)
theorem lenB (q r : Bool) (k j : Int) : (oneK q k ++ oneK r j).length ≤ 1099511627776 := Nat.le_trans (oneK_le _ _ _ _ (oneK_len q k)) (by decide)
theorem lenC0 (q1 q2 q3 q4 : Bool) : (oneK q1 1 ++ (bif q2 then [2] else oneK q3 3 ++ oneK q4 4)).length ≤ 3 := by
  cases q1 <;> cases q2 <;> cases q3 <;> cases q4 <;> decide
theorem lenC (q1 q2 q3 q4 : Bool) : (oneK q1 1 ++ (bif q2 then [2] else oneK q3 3 ++ oneK q4 4)).length ≤ 1099511627776 := Nat.le_trans (lenC0 q1 q2 q3 q4) (by decide)
theorem lenD (q1 q2 q3 q4 q5 : Bool) : (oneK q1 1 ++ (bif q2 then [2] else oneK q3 3 ++ oneK q4 4) ++ oneK q5 5).length ≤ 1099511627776 := Nat.le_trans (oneK_le _ _ _ _ (lenC0 q1 q2 q3 q4)) (by decide)
set_option maxHeartbeats 8000000 in
set_option maxRecDepth 20000 in
theorem specKinds_yes (a b : ArmsD) (w : World) (ga : armsOk a = true) (gb : armsOk b = true) : Calls Try.prog 8 #[.agg (ac a).toArray, .agg (ac b).toArray] w (IntsOk w (kindL a b) true) := by
  have KA := fun w' => l5GoodC a w'
  have KB := fun w' => l5GoodC b w'
  rw [ga] at KA
  rw [gb] at KB
  have KA' := Lib.hid KA
  have KB' := Lib.hid KB
  obtain ⟨q1, hq1⟩ : ∃ q, q = ne4 a.d a.l a.p a.q b.d b.l b.p b.q := ⟨_, rfl⟩
  obtain ⟨q2, hq2⟩ : ∃ q, q = neI a.o b.o := ⟨_, rfl⟩
  obtain ⟨q3, hq3⟩ : ∃ q, q = neI a.li b.li := ⟨_, rfl⟩
  obtain ⟨q4, hq4⟩ : ∃ q, q = neI a.t b.t := ⟨_, rfl⟩
  obtain ⟨q5, hq5⟩ : ∃ q, q = ne4 a.c1 a.k1 a.a1 a.t1 b.c1 b.k1 b.a1 b.t1 := ⟨_, rfl⟩
  obtain ⟨q6, hq6⟩ : ∃ q, q = ne4 a.c2 a.k2 a.a2 a.t2 b.c2 b.k2 b.a2 b.t2 := ⟨_, rfl⟩
  have hk : kindL a b = oneK q1 1 ++ (bif q2 then [2] else oneK q3 3 ++ oneK q4 4) ++ oneK q5 5 ++ oneK q6 6 := by rw [hq1, hq2, hq3, hq4, hq5, hq6]; rfl
  rw [hk]
  have HQ1 := Lib.hid hq1
  have HQ2 := Lib.hid hq2
  have HQ3 := Lib.hid hq3
  have HQ4 := Lib.hid hq4
  have HQ5 := Lib.hid hq5
  have HQ6 := Lib.hid hq6
  have HBOX := Lib.hid (boxes15 a b w)
  have HBH := Lib.hid (boxesH a b w)
  clear KA KB hq1 hq2 hq3 hq4 hq5 hq6 hk ga gb
  go_enter Try.func8, Try.ntmps8
  go_upto_region 4 with (first | (refine ldA rfl _ rfl w.heap.size _ rfl a (rangeAt_blk (heap_keepA (heap_hit _ _ _ rfl) _)) ?_) | (refine ldA rfl _ rfl w.heap.size _ rfl a (rangeAt_blk (heap_keepA (heap_keepA (heap_hit _ _ _ rfl) _) _)) ?_) | (go_at_call 30; first | ((with_reducible refine (KA'.out _).mono ?_); rintro e w1 ⟨rfl, hb1⟩; have hr2 := blk_cells (HBH.out w1 (by (repeat (first | exact Below.refl _ _ | assumption | refine Below_al ?_ _ | refine Below.drew ?_ | refine Below_then ?_ (by assumption) | refine Below.setCell ?_ (by first | omega | (simp; done) | (simp; omega)) _)))).2) | (refine (KB'.out _).mono ?_; rintro e w2 ⟨rfl, hb2⟩; clear hr2)) | fail)
  have hbx := HBOX.out w2 (by (repeat (first | exact Below.refl _ _ | assumption | refine Below_al ?_ _ | refine Below.drew ?_ | refine Below_then ?_ (by assumption) | refine Below.setCell ?_ (by first | omega | (simp; done) | (simp; omega)) _)))
  have hbw : Below w.heap.size w w2 := by (repeat (first | exact Below.refl _ _ | assumption | refine Below_al ?_ _ | refine Below.drew ?_ | refine Below_then ?_ (by assumption) | refine Below.setCell ?_ (by first | omega | (simp; done) | (simp; omega)) _))
  have hN : w.heap.size + 1 < w2.heap.size := hbx.2.lt
  have hO : OwnI w2 (w.heap.size + 2) 3 (.slice (some ⟨w.heap.size + 1 + 1, 0, none⟩) 0 0) [] := ((OwnI.noneT ((w.alloc (.cells (ac a).toArray 34)).alloc (.cells (ac b).toArray 34)) (w.heap.size + 2) (w.heap.size + 1 + 1) (by simp) (by omega)).below hb1).below hb2
  have hBX : ∀ w', Below (w.heap.size + 2) w2 w' → Box15 w' w.heap.size a ∧ Box15 w' (w.heap.size + 1) b := fun w' hb => ⟨hbx.1.below hb (by omega), hbx.2.below hb (by omega)⟩
  have HBX := Lib.hid hBX
  have hD : w.heap.size + 2 ≤ w2.heap.size := by omega
  have hT : Below (w.heap.size + 2) w2 w2 := Below.refl _ _
  clear hb1 hb2 HBH HBOX hbx hBX
  go_upto_if 21 with (first | (refine ldI rfl _ rfl w.heap.size 4 rfl _ (HBX.out _ hT).1.o ?_) | (refine ldI rfl _ rfl (w.heap.size + 1) 4 rfl _ (HBX.out _ hT).2.o ?_) | (refine ldI rfl _ rfl w.heap.size 5 rfl _ (HBX.out _ hT).1.li ?_) | (refine ldI rfl _ rfl (w.heap.size + 1) 5 rfl _ (HBX.out _ hT).2.li ?_) | (refine ldI rfl _ rfl w.heap.size 6 rfl _ (HBX.out _ hT).1.t ?_) | (refine ldI rfl _ rfl (w.heap.size + 1) 6 rfl _ (HBX.out _ hT).2.t ?_) | (refine ldFl rfl _ rfl w.heap.size 0 rfl _ _ _ _ (HBX.out _ hT).1.f ?_) | (refine ldFl rfl _ rfl (w.heap.size + 1) 0 rfl _ _ _ _ (HBX.out _ hT).2.f ?_) | (refine ldGp rfl _ rfl w.heap.size 7 rfl _ _ _ _ (HBX.out _ hT).1.g ?_) | (refine ldGp rfl _ rfl (w.heap.size + 1) 7 rfl _ _ _ _ (HBX.out _ hT).2.g ?_) | (refine ldGp rfl _ rfl w.heap.size 11 rfl _ _ _ _ (HBX.out _ hT).1.r ?_) | (refine ldGp rfl _ rfl (w.heap.size + 1) 11 rfl _ _ _ _ (HBX.out _ hT).2.r ?_) | (refine wpList_neqF rfl _ _ _ rfl _ _ _ _ _ _ _ _ rfl rfl q1 HQ1.out ?_) | (refine wpList_neqG rfl _ _ _ rfl _ _ _ _ _ _ _ _ rfl rfl q5 HQ5.out ?_) | (refine wpList_neqG rfl _ _ _ rfl _ _ _ _ _ _ _ _ rfl rfl q6 HQ6.out ?_) | (refine wpList_neqI rfl _ _ _ rfl _ _ rfl rfl _ HQ2.out ?_) | (refine wpList_eqlI rfl _ _ _ rfl _ _ rfl rfl _ HQ2.out ?_) | (refine wpList_neqI rfl _ _ _ rfl _ _ rfl rfl q3 HQ3.out ?_) | (refine wpList_neqI rfl _ _ _ rfl _ _ rfl rfl q4 HQ4.out ?_) | fail)
  try simp only [Act.put, List.getElem_toArray, List.getElem_cons_succ, List.getElem_cons_zero, List.setIfInBounds_toArray, List.set_cons_zero, List.set_cons_succ]
  go_cut [6] (fun v wx => ∃ u, v = u ∧ OwnI wx (w.heap.size + 2) 3 u (oneK q1 1) ∧ Below (w.heap.size + 2) w2 wx)
  case first =>
    cases q1
    · go_wp2_with fail
      go_meet
      exact ⟨_, rfl, by simpa [oneK] using hO, hT⟩
    · go_wp2_with (first | (at_builtin; refine wp_appI rfl _ _ rfl (w.heap.size + 2) _ ([]) rfl (hO.alloc _) _ _ rfl (cell_of (heap_hit _ _ _ rfl) 0) (by first | exact lenZ | exact lenA _ _ | exact lenB _ _ _ _ | exact lenC _ _ _ _ | exact lenD _ _ _ _ _) (Nat.le_trans hD (by have := hT.size; first | (simp; done) | (simp; omega))) ?_; intro v' w9 hO9 hG9 hL9) | fail)
      go_meet
      exact ⟨_, rfl, by simpa [oneK] using hO9, (hT.alloc (by have := hT.size; omega) _).trans hL9⟩
  case rest =>
    obtain ⟨u1, hu, hO, hT⟩ := hcut
    replace hu := hu.symm
    subst hu
    go_upto_if 29 with (first | (refine ldI rfl _ rfl w.heap.size 4 rfl _ (HBX.out _ hT).1.o ?_) | (refine ldI rfl _ rfl (w.heap.size + 1) 4 rfl _ (HBX.out _ hT).2.o ?_) | (refine ldI rfl _ rfl w.heap.size 5 rfl _ (HBX.out _ hT).1.li ?_) | (refine ldI rfl _ rfl (w.heap.size + 1) 5 rfl _ (HBX.out _ hT).2.li ?_) | (refine ldI rfl _ rfl w.heap.size 6 rfl _ (HBX.out _ hT).1.t ?_) | (refine ldI rfl _ rfl (w.heap.size + 1) 6 rfl _ (HBX.out _ hT).2.t ?_) | (refine ldFl rfl _ rfl w.heap.size 0 rfl _ _ _ _ (HBX.out _ hT).1.f ?_) | (refine ldFl rfl _ rfl (w.heap.size + 1) 0 rfl _ _ _ _ (HBX.out _ hT).2.f ?_) | (refine ldGp rfl _ rfl w.heap.size 7 rfl _ _ _ _ (HBX.out _ hT).1.g ?_) | (refine ldGp rfl _ rfl (w.heap.size + 1) 7 rfl _ _ _ _ (HBX.out _ hT).2.g ?_) | (refine ldGp rfl _ rfl w.heap.size 11 rfl _ _ _ _ (HBX.out _ hT).1.r ?_) | (refine ldGp rfl _ rfl (w.heap.size + 1) 11 rfl _ _ _ _ (HBX.out _ hT).2.r ?_) | (refine wpList_neqF rfl _ _ _ rfl _ _ _ _ _ _ _ _ rfl rfl q1 HQ1.out ?_) | (refine wpList_neqG rfl _ _ _ rfl _ _ _ _ _ _ _ _ rfl rfl q5 HQ5.out ?_) | (refine wpList_neqG rfl _ _ _ rfl _ _ _ _ _ _ _ _ rfl rfl q6 HQ6.out ?_) | (refine wpList_neqI rfl _ _ _ rfl _ _ rfl rfl _ HQ2.out ?_) | (refine wpList_eqlI rfl _ _ _ rfl _ _ rfl rfl _ HQ2.out ?_) | (refine wpList_neqI rfl _ _ _ rfl _ _ rfl rfl q3 HQ3.out ?_) | (refine wpList_neqI rfl _ _ _ rfl _ _ rfl rfl q4 HQ4.out ?_) | fail)
    try simp only [Act.put, List.getElem_toArray, List.getElem_cons_succ, List.getElem_cons_zero, List.setIfInBounds_toArray, List.set_cons_zero, List.set_cons_succ]
    go_cut [6] (fun v wx => ∃ u, v = u ∧ OwnI wx (w.heap.size + 2) 3 u (oneK q1 1 ++ (bif q2 then [2] else oneK q3 3 ++ oneK q4 4)) ∧ Below (w.heap.size + 2) w2 wx)
    case first =>
      cases q2
      · go_upto_if 37 with (first | (refine ldI rfl _ rfl w.heap.size 4 rfl _ (HBX.out _ hT).1.o ?_) | (refine ldI rfl _ rfl (w.heap.size + 1) 4 rfl _ (HBX.out _ hT).2.o ?_) | (refine ldI rfl _ rfl w.heap.size 5 rfl _ (HBX.out _ hT).1.li ?_) | (refine ldI rfl _ rfl (w.heap.size + 1) 5 rfl _ (HBX.out _ hT).2.li ?_) | (refine ldI rfl _ rfl w.heap.size 6 rfl _ (HBX.out _ hT).1.t ?_) | (refine ldI rfl _ rfl (w.heap.size + 1) 6 rfl _ (HBX.out _ hT).2.t ?_) | (refine ldFl rfl _ rfl w.heap.size 0 rfl _ _ _ _ (HBX.out _ hT).1.f ?_) | (refine ldFl rfl _ rfl (w.heap.size + 1) 0 rfl _ _ _ _ (HBX.out _ hT).2.f ?_) | (refine ldGp rfl _ rfl w.heap.size 7 rfl _ _ _ _ (HBX.out _ hT).1.g ?_) | (refine ldGp rfl _ rfl (w.heap.size + 1) 7 rfl _ _ _ _ (HBX.out _ hT).2.g ?_) | (refine ldGp rfl _ rfl w.heap.size 11 rfl _ _ _ _ (HBX.out _ hT).1.r ?_) | (refine ldGp rfl _ rfl (w.heap.size + 1) 11 rfl _ _ _ _ (HBX.out _ hT).2.r ?_) | (refine wpList_neqF rfl _ _ _ rfl _ _ _ _ _ _ _ _ rfl rfl q1 HQ1.out ?_) | (refine wpList_neqG rfl _ _ _ rfl _ _ _ _ _ _ _ _ rfl rfl q5 HQ5.out ?_) | (refine wpList_neqG rfl _ _ _ rfl _ _ _ _ _ _ _ _ rfl rfl q6 HQ6.out ?_) | (refine wpList_neqI rfl _ _ _ rfl _ _ rfl rfl _ HQ2.out ?_) | (refine wpList_eqlI rfl _ _ _ rfl _ _ rfl rfl _ HQ2.out ?_) | (refine wpList_neqI rfl _ _ _ rfl _ _ rfl rfl q3 HQ3.out ?_) | (refine wpList_neqI rfl _ _ _ rfl _ _ rfl rfl q4 HQ4.out ?_) | fail)
        try simp only [Act.put, List.getElem_toArray, List.getElem_cons_succ, List.getElem_cons_zero, List.setIfInBounds_toArray, List.set_cons_zero, List.set_cons_succ]
        go_cut [6] (fun v wx => ∃ u, v = u ∧ OwnI wx (w.heap.size + 2) 3 u (oneK q1 1 ++ oneK q3 3) ∧ Below (w.heap.size + 2) w2 wx)
        case first =>
          cases q3
          · go_wp2_with fail
            go_meet
            exact ⟨_, rfl, by simpa [oneK] using hO, hT⟩
          · go_wp2_with (first | (at_builtin; refine wp_appI rfl _ _ rfl (w.heap.size + 2) _ (oneK q1 1) rfl (hO.alloc _) _ _ rfl (cell_of (heap_hit _ _ _ rfl) 0) (by first | exact lenZ | exact lenA _ _ | exact lenB _ _ _ _ | exact lenC _ _ _ _ | exact lenD _ _ _ _ _) (Nat.le_trans hD (by have := hT.size; first | (simp; done) | (simp; omega))) ?_; intro v' w9 hO9 hG9 hL9) | (refine ldI rfl _ rfl w.heap.size 4 rfl _ (HBX.out _ hT).1.o ?_) | (refine ldI rfl _ rfl (w.heap.size + 1) 4 rfl _ (HBX.out _ hT).2.o ?_) | (refine ldI rfl _ rfl w.heap.size 5 rfl _ (HBX.out _ hT).1.li ?_) | (refine ldI rfl _ rfl (w.heap.size + 1) 5 rfl _ (HBX.out _ hT).2.li ?_) | (refine ldI rfl _ rfl w.heap.size 6 rfl _ (HBX.out _ hT).1.t ?_) | (refine ldI rfl _ rfl (w.heap.size + 1) 6 rfl _ (HBX.out _ hT).2.t ?_) | (refine ldFl rfl _ rfl w.heap.size 0 rfl _ _ _ _ (HBX.out _ hT).1.f ?_) | (refine ldFl rfl _ rfl (w.heap.size + 1) 0 rfl _ _ _ _ (HBX.out _ hT).2.f ?_) | (refine ldGp rfl _ rfl w.heap.size 7 rfl _ _ _ _ (HBX.out _ hT).1.g ?_) | (refine ldGp rfl _ rfl (w.heap.size + 1) 7 rfl _ _ _ _ (HBX.out _ hT).2.g ?_) | (refine ldGp rfl _ rfl w.heap.size 11 rfl _ _ _ _ (HBX.out _ hT).1.r ?_) | (refine ldGp rfl _ rfl (w.heap.size + 1) 11 rfl _ _ _ _ (HBX.out _ hT).2.r ?_) | (refine wpList_neqF rfl _ _ _ rfl _ _ _ _ _ _ _ _ rfl rfl q1 HQ1.out ?_) | (refine wpList_neqG rfl _ _ _ rfl _ _ _ _ _ _ _ _ rfl rfl q5 HQ5.out ?_) | (refine wpList_neqG rfl _ _ _ rfl _ _ _ _ _ _ _ _ rfl rfl q6 HQ6.out ?_) | (refine wpList_neqI rfl _ _ _ rfl _ _ rfl rfl _ HQ2.out ?_) | (refine wpList_eqlI rfl _ _ _ rfl _ _ rfl rfl _ HQ2.out ?_) | (refine wpList_neqI rfl _ _ _ rfl _ _ rfl rfl q3 HQ3.out ?_) | (refine wpList_neqI rfl _ _ _ rfl _ _ rfl rfl q4 HQ4.out ?_) | fail)
            go_meet
            exact ⟨_, rfl, by simpa [oneK] using hO9, (hT.alloc (by have := hT.size; omega) _).trans hL9⟩
        case rest =>
          obtain ⟨u5, hu, hO, hT⟩ := hcut
          replace hu := hu.symm
          subst hu
          go_upto_if 45 with (first | (refine ldI rfl _ rfl w.heap.size 4 rfl _ (HBX.out _ hT).1.o ?_) | (refine ldI rfl _ rfl (w.heap.size + 1) 4 rfl _ (HBX.out _ hT).2.o ?_) | (refine ldI rfl _ rfl w.heap.size 5 rfl _ (HBX.out _ hT).1.li ?_) | (refine ldI rfl _ rfl (w.heap.size + 1) 5 rfl _ (HBX.out _ hT).2.li ?_) | (refine ldI rfl _ rfl w.heap.size 6 rfl _ (HBX.out _ hT).1.t ?_) | (refine ldI rfl _ rfl (w.heap.size + 1) 6 rfl _ (HBX.out _ hT).2.t ?_) | (refine ldFl rfl _ rfl w.heap.size 0 rfl _ _ _ _ (HBX.out _ hT).1.f ?_) | (refine ldFl rfl _ rfl (w.heap.size + 1) 0 rfl _ _ _ _ (HBX.out _ hT).2.f ?_) | (refine ldGp rfl _ rfl w.heap.size 7 rfl _ _ _ _ (HBX.out _ hT).1.g ?_) | (refine ldGp rfl _ rfl (w.heap.size + 1) 7 rfl _ _ _ _ (HBX.out _ hT).2.g ?_) | (refine ldGp rfl _ rfl w.heap.size 11 rfl _ _ _ _ (HBX.out _ hT).1.r ?_) | (refine ldGp rfl _ rfl (w.heap.size + 1) 11 rfl _ _ _ _ (HBX.out _ hT).2.r ?_) | (refine wpList_neqF rfl _ _ _ rfl _ _ _ _ _ _ _ _ rfl rfl q1 HQ1.out ?_) | (refine wpList_neqG rfl _ _ _ rfl _ _ _ _ _ _ _ _ rfl rfl q5 HQ5.out ?_) | (refine wpList_neqG rfl _ _ _ rfl _ _ _ _ _ _ _ _ rfl rfl q6 HQ6.out ?_) | (refine wpList_neqI rfl _ _ _ rfl _ _ rfl rfl _ HQ2.out ?_) | (refine wpList_eqlI rfl _ _ _ rfl _ _ rfl rfl _ HQ2.out ?_) | (refine wpList_neqI rfl _ _ _ rfl _ _ rfl rfl q3 HQ3.out ?_) | (refine wpList_neqI rfl _ _ _ rfl _ _ rfl rfl q4 HQ4.out ?_) | fail)
          try simp only [Act.put, List.getElem_toArray, List.getElem_cons_succ, List.getElem_cons_zero, List.setIfInBounds_toArray, List.set_cons_zero, List.set_cons_succ]
          cases q4
          · go_wp2_with fail
            go_meet
            exact ⟨_, rfl, by simpa [oneK] using hO, hT⟩
          · go_wp2_with (first | (at_builtin; refine wp_appI rfl _ _ rfl (w.heap.size + 2) _ (oneK q1 1 ++ oneK q3 3) rfl (hO.alloc _) _ _ rfl (cell_of (heap_hit _ _ _ rfl) 0) (by first | exact lenZ | exact lenA _ _ | exact lenB _ _ _ _ | exact lenC _ _ _ _ | exact lenD _ _ _ _ _) (Nat.le_trans hD (by have := hT.size; first | (simp; done) | (simp; omega))) ?_; intro v' w9 hO9 hG9 hL9) | (refine ldI rfl _ rfl w.heap.size 4 rfl _ (HBX.out _ hT).1.o ?_) | (refine ldI rfl _ rfl (w.heap.size + 1) 4 rfl _ (HBX.out _ hT).2.o ?_) | (refine ldI rfl _ rfl w.heap.size 5 rfl _ (HBX.out _ hT).1.li ?_) | (refine ldI rfl _ rfl (w.heap.size + 1) 5 rfl _ (HBX.out _ hT).2.li ?_) | (refine ldI rfl _ rfl w.heap.size 6 rfl _ (HBX.out _ hT).1.t ?_) | (refine ldI rfl _ rfl (w.heap.size + 1) 6 rfl _ (HBX.out _ hT).2.t ?_) | (refine ldFl rfl _ rfl w.heap.size 0 rfl _ _ _ _ (HBX.out _ hT).1.f ?_) | (refine ldFl rfl _ rfl (w.heap.size + 1) 0 rfl _ _ _ _ (HBX.out _ hT).2.f ?_) | (refine ldGp rfl _ rfl w.heap.size 7 rfl _ _ _ _ (HBX.out _ hT).1.g ?_) | (refine ldGp rfl _ rfl (w.heap.size + 1) 7 rfl _ _ _ _ (HBX.out _ hT).2.g ?_) | (refine ldGp rfl _ rfl w.heap.size 11 rfl _ _ _ _ (HBX.out _ hT).1.r ?_) | (refine ldGp rfl _ rfl (w.heap.size + 1) 11 rfl _ _ _ _ (HBX.out _ hT).2.r ?_) | (refine wpList_neqF rfl _ _ _ rfl _ _ _ _ _ _ _ _ rfl rfl q1 HQ1.out ?_) | (refine wpList_neqG rfl _ _ _ rfl _ _ _ _ _ _ _ _ rfl rfl q5 HQ5.out ?_) | (refine wpList_neqG rfl _ _ _ rfl _ _ _ _ _ _ _ _ rfl rfl q6 HQ6.out ?_) | (refine wpList_neqI rfl _ _ _ rfl _ _ rfl rfl _ HQ2.out ?_) | (refine wpList_eqlI rfl _ _ _ rfl _ _ rfl rfl _ HQ2.out ?_) | (refine wpList_neqI rfl _ _ _ rfl _ _ rfl rfl q3 HQ3.out ?_) | (refine wpList_neqI rfl _ _ _ rfl _ _ rfl rfl q4 HQ4.out ?_) | fail)
            go_meet
            exact ⟨_, rfl, by simpa [oneK] using hO9, (hT.alloc (by have := hT.size; omega) _).trans hL9⟩
      · go_wp2_with (first | (at_builtin; refine wp_appI rfl _ _ rfl (w.heap.size + 2) _ (oneK q1 1) rfl (hO.alloc _) _ _ rfl (cell_of (heap_hit _ _ _ rfl) 0) (by first | exact lenZ | exact lenA _ _ | exact lenB _ _ _ _ | exact lenC _ _ _ _ | exact lenD _ _ _ _ _) (Nat.le_trans hD (by have := hT.size; first | (simp; done) | (simp; omega))) ?_; intro v' w9 hO9 hG9 hL9) | (refine ldI rfl _ rfl w.heap.size 4 rfl _ (HBX.out _ hT).1.o ?_) | (refine ldI rfl _ rfl (w.heap.size + 1) 4 rfl _ (HBX.out _ hT).2.o ?_) | (refine ldI rfl _ rfl w.heap.size 5 rfl _ (HBX.out _ hT).1.li ?_) | (refine ldI rfl _ rfl (w.heap.size + 1) 5 rfl _ (HBX.out _ hT).2.li ?_) | (refine ldI rfl _ rfl w.heap.size 6 rfl _ (HBX.out _ hT).1.t ?_) | (refine ldI rfl _ rfl (w.heap.size + 1) 6 rfl _ (HBX.out _ hT).2.t ?_) | (refine ldFl rfl _ rfl w.heap.size 0 rfl _ _ _ _ (HBX.out _ hT).1.f ?_) | (refine ldFl rfl _ rfl (w.heap.size + 1) 0 rfl _ _ _ _ (HBX.out _ hT).2.f ?_) | (refine ldGp rfl _ rfl w.heap.size 7 rfl _ _ _ _ (HBX.out _ hT).1.g ?_) | (refine ldGp rfl _ rfl (w.heap.size + 1) 7 rfl _ _ _ _ (HBX.out _ hT).2.g ?_) | (refine ldGp rfl _ rfl w.heap.size 11 rfl _ _ _ _ (HBX.out _ hT).1.r ?_) | (refine ldGp rfl _ rfl (w.heap.size + 1) 11 rfl _ _ _ _ (HBX.out _ hT).2.r ?_) | (refine wpList_neqF rfl _ _ _ rfl _ _ _ _ _ _ _ _ rfl rfl q1 HQ1.out ?_) | (refine wpList_neqG rfl _ _ _ rfl _ _ _ _ _ _ _ _ rfl rfl q5 HQ5.out ?_) | (refine wpList_neqG rfl _ _ _ rfl _ _ _ _ _ _ _ _ rfl rfl q6 HQ6.out ?_) | (refine wpList_neqI rfl _ _ _ rfl _ _ rfl rfl _ HQ2.out ?_) | (refine wpList_eqlI rfl _ _ _ rfl _ _ rfl rfl _ HQ2.out ?_) | (refine wpList_neqI rfl _ _ _ rfl _ _ rfl rfl q3 HQ3.out ?_) | (refine wpList_neqI rfl _ _ _ rfl _ _ rfl rfl q4 HQ4.out ?_) | fail)
        go_meet
        exact ⟨_, rfl, by simpa [oneK] using hO9, (hT.alloc (by have := hT.size; omega) _).trans hL9⟩
    case rest =>
      obtain ⟨u2, hu, hO, hT⟩ := hcut
      replace hu := hu.symm
      subst hu
      go_upto_if 53 with (first | (refine ldI rfl _ rfl w.heap.size 4 rfl _ (HBX.out _ hT).1.o ?_) | (refine ldI rfl _ rfl (w.heap.size + 1) 4 rfl _ (HBX.out _ hT).2.o ?_) | (refine ldI rfl _ rfl w.heap.size 5 rfl _ (HBX.out _ hT).1.li ?_) | (refine ldI rfl _ rfl (w.heap.size + 1) 5 rfl _ (HBX.out _ hT).2.li ?_) | (refine ldI rfl _ rfl w.heap.size 6 rfl _ (HBX.out _ hT).1.t ?_) | (refine ldI rfl _ rfl (w.heap.size + 1) 6 rfl _ (HBX.out _ hT).2.t ?_) | (refine ldFl rfl _ rfl w.heap.size 0 rfl _ _ _ _ (HBX.out _ hT).1.f ?_) | (refine ldFl rfl _ rfl (w.heap.size + 1) 0 rfl _ _ _ _ (HBX.out _ hT).2.f ?_) | (refine ldGp rfl _ rfl w.heap.size 7 rfl _ _ _ _ (HBX.out _ hT).1.g ?_) | (refine ldGp rfl _ rfl (w.heap.size + 1) 7 rfl _ _ _ _ (HBX.out _ hT).2.g ?_) | (refine ldGp rfl _ rfl w.heap.size 11 rfl _ _ _ _ (HBX.out _ hT).1.r ?_) | (refine ldGp rfl _ rfl (w.heap.size + 1) 11 rfl _ _ _ _ (HBX.out _ hT).2.r ?_) | (refine wpList_neqF rfl _ _ _ rfl _ _ _ _ _ _ _ _ rfl rfl q1 HQ1.out ?_) | (refine wpList_neqG rfl _ _ _ rfl _ _ _ _ _ _ _ _ rfl rfl q5 HQ5.out ?_) | (refine wpList_neqG rfl _ _ _ rfl _ _ _ _ _ _ _ _ rfl rfl q6 HQ6.out ?_) | (refine wpList_neqI rfl _ _ _ rfl _ _ rfl rfl _ HQ2.out ?_) | (refine wpList_eqlI rfl _ _ _ rfl _ _ rfl rfl _ HQ2.out ?_) | (refine wpList_neqI rfl _ _ _ rfl _ _ rfl rfl q3 HQ3.out ?_) | (refine wpList_neqI rfl _ _ _ rfl _ _ rfl rfl q4 HQ4.out ?_) | fail)
      try simp only [Act.put, List.getElem_toArray, List.getElem_cons_succ, List.getElem_cons_zero, List.setIfInBounds_toArray, List.set_cons_zero, List.set_cons_succ]
      go_cut [6] (fun v wx => ∃ u, v = u ∧ OwnI wx (w.heap.size + 2) 3 u (oneK q1 1 ++ (bif q2 then [2] else oneK q3 3 ++ oneK q4 4) ++ oneK q5 5) ∧ Below (w.heap.size + 2) w2 wx)
      case first =>
        cases q5
        · go_wp2_with fail
          go_meet
          exact ⟨_, rfl, by simpa [oneK] using hO, hT⟩
        · go_wp2_with (first | (at_builtin; refine wp_appI rfl _ _ rfl (w.heap.size + 2) _ (oneK q1 1 ++ (bif q2 then [2] else oneK q3 3 ++ oneK q4 4)) rfl (hO.alloc _) _ _ rfl (cell_of (heap_hit _ _ _ rfl) 0) (by first | exact lenZ | exact lenA _ _ | exact lenB _ _ _ _ | exact lenC _ _ _ _ | exact lenD _ _ _ _ _) (Nat.le_trans hD (by have := hT.size; first | (simp; done) | (simp; omega))) ?_; intro v' w9 hO9 hG9 hL9) | fail)
          go_meet
          exact ⟨_, rfl, by simpa [oneK] using hO9, (hT.alloc (by have := hT.size; omega) _).trans hL9⟩
      case rest =>
        obtain ⟨u3, hu, hO, hT⟩ := hcut
        replace hu := hu.symm
        subst hu
        go_upto_if 61 with (first | (refine ldI rfl _ rfl w.heap.size 4 rfl _ (HBX.out _ hT).1.o ?_) | (refine ldI rfl _ rfl (w.heap.size + 1) 4 rfl _ (HBX.out _ hT).2.o ?_) | (refine ldI rfl _ rfl w.heap.size 5 rfl _ (HBX.out _ hT).1.li ?_) | (refine ldI rfl _ rfl (w.heap.size + 1) 5 rfl _ (HBX.out _ hT).2.li ?_) | (refine ldI rfl _ rfl w.heap.size 6 rfl _ (HBX.out _ hT).1.t ?_) | (refine ldI rfl _ rfl (w.heap.size + 1) 6 rfl _ (HBX.out _ hT).2.t ?_) | (refine ldFl rfl _ rfl w.heap.size 0 rfl _ _ _ _ (HBX.out _ hT).1.f ?_) | (refine ldFl rfl _ rfl (w.heap.size + 1) 0 rfl _ _ _ _ (HBX.out _ hT).2.f ?_) | (refine ldGp rfl _ rfl w.heap.size 7 rfl _ _ _ _ (HBX.out _ hT).1.g ?_) | (refine ldGp rfl _ rfl (w.heap.size + 1) 7 rfl _ _ _ _ (HBX.out _ hT).2.g ?_) | (refine ldGp rfl _ rfl w.heap.size 11 rfl _ _ _ _ (HBX.out _ hT).1.r ?_) | (refine ldGp rfl _ rfl (w.heap.size + 1) 11 rfl _ _ _ _ (HBX.out _ hT).2.r ?_) | (refine wpList_neqF rfl _ _ _ rfl _ _ _ _ _ _ _ _ rfl rfl q1 HQ1.out ?_) | (refine wpList_neqG rfl _ _ _ rfl _ _ _ _ _ _ _ _ rfl rfl q5 HQ5.out ?_) | (refine wpList_neqG rfl _ _ _ rfl _ _ _ _ _ _ _ _ rfl rfl q6 HQ6.out ?_) | (refine wpList_neqI rfl _ _ _ rfl _ _ rfl rfl _ HQ2.out ?_) | (refine wpList_eqlI rfl _ _ _ rfl _ _ rfl rfl _ HQ2.out ?_) | (refine wpList_neqI rfl _ _ _ rfl _ _ rfl rfl q3 HQ3.out ?_) | (refine wpList_neqI rfl _ _ _ rfl _ _ rfl rfl q4 HQ4.out ?_) | fail)
        try simp only [Act.put, List.getElem_toArray, List.getElem_cons_succ, List.getElem_cons_zero, List.setIfInBounds_toArray, List.set_cons_zero, List.set_cons_succ]
        go_cut [6] (fun v wx => ∃ u, v = u ∧ OwnI wx (w.heap.size + 2) 3 u (oneK q1 1 ++ (bif q2 then [2] else oneK q3 3 ++ oneK q4 4) ++ oneK q5 5 ++ oneK q6 6) ∧ Below (w.heap.size + 2) w2 wx)
        case first =>
          cases q6
          · go_wp2_with fail
            go_meet
            exact ⟨_, rfl, by simpa [oneK] using hO, hT⟩
          · go_wp2_with (first | (at_builtin; refine wp_appI rfl _ _ rfl (w.heap.size + 2) _ (oneK q1 1 ++ (bif q2 then [2] else oneK q3 3 ++ oneK q4 4) ++ oneK q5 5) rfl (hO.alloc _) _ _ rfl (cell_of (heap_hit _ _ _ rfl) 0) (by first | exact lenZ | exact lenA _ _ | exact lenB _ _ _ _ | exact lenC _ _ _ _ | exact lenD _ _ _ _ _) (Nat.le_trans hD (by have := hT.size; first | (simp; done) | (simp; omega))) ?_; intro v' w9 hO9 hG9 hL9) | fail)
            go_meet
            exact ⟨_, rfl, by simpa [oneK] using hO9, (hT.alloc (by have := hT.size; omega) _).trans hL9⟩
        case rest =>
          obtain ⟨u4, hu, hO, hT⟩ := hcut
          replace hu := hu.symm
          subst hu
          obtain ⟨A6, d6, rfl, -⟩ := hO.form
          go_wp2
          go_ret2
          exact ⟨_, rfl, OwnI.base hO (by omega), (hbw.trans (hT.mono (by omega)))⟩
theorem specKinds_any (a b : ArmsD) (w : World) : Calls Try.prog 8 #[.agg (ac a).toArray, .agg (ac b).toArray] w (IntsOk w (kindR a b) (kindOk a b)) := by
  cases hn : kindOk a b
  · rw [show kindR a b = [] by rw [kindR, hn]; rfl]
    exact specKinds_no a b w hn
  · have h2 := Bool.and_eq_true_iff.1 hn
    rw [show kindR a b = kindL a b by rw [kindR, hn]; rfl]
    exact specKinds_yes a b w h2.1 h2.2
theorem implKinds_any (a b : ArmsD) (w : World) : Calls Try.prog 10 #[.agg (ac a).toArray, .agg (ac b).toArray] w (IntsOk w (kindR a b) (kindOk a b)) := by
  cases hn : kindOk a b
  · rw [show kindR a b = [] by rw [kindR, hn]; rfl]
    exact implKinds_no a b w hn
  · have h2 := Bool.and_eq_true_iff.1 hn
    rw [show kindR a b = kindL a b by rw [kindR, hn]; rfl]
    exact implKinds_yes a b w h2.1 h2.2
end Go.Proofs.Ytofnhgimeaahiaa
