/- Contracts: FreeTinctures, both sides: valid lists. -/
import Derived.Test.YtpboheaiigbfbaaFree
namespace Go.Proofs.Ytpboheaiigbfbaa
open Go.ChangeShapes Go.WideShapes Go.ChangeAt Go.RowKit
set_option linter.unusedVariables false
set_option linter.unusedSimpArgs false

theorem all_take_snoc {α : Type} (rows : List α) (f : α → Bool) {j : Nat} {x : α} (h : rows[j]? = some x) : (rows.take (j + 1)).all f = ((rows.take j).all f && f x) := by
  rw [List.take_add_one, h]
  simp

theorem cf_free (args : Array Value) (w : World) : (callFunc 55 args).run Try.prog w = .ok (.enter 55 args) w := by kernel_rfl
theorem free_cl (a b : ArmsD) (D : Nat) (w : World) (ga : armsOk a = true) (gb : armsOk b = true) (hB : w.heap[D]? = some (.cells (ac a).toArray 34 (0, 0))) :
    Calls Try.prog 55 #[.agg (ac b).toArray, .pointer (some ⟨D, 0, none⟩)] w fun e w' => e = .returned (.bool (confl a b)) ∧ Below w.heap.size w w' := by
  have K := fun w => conflictC a b w ga gb
  generalize confl a b = x at *
  have K' := Lib.hid K
  have hA := rangeAt_blk (heap_keepA hB (.cells (ac b).toArray 34))
  have hA2 : (w.alloc (.cells (ac b).toArray 34)).rangeAt w.heap.size 0 (ac b) := rangeAt_blk (heap_hit _ _ _ rfl)
  clear K ga gb
  go_enter Try.func55, Try.ntmps55
  go_wp2_with (first | (refine ldA rfl _ rfl _ _ rfl _ (by assumption) ?_) | fail)
  refine (K'.out _).mono ?_
  rintro e w1 ⟨rfl, hb1⟩
  go_wp2
  go_ret
  exact ⟨rfl, by (repeat (first | exact Below.refl _ _ | assumption | refine Below_al ?_ _ | refine Below.drew ?_ | refine Below_then ?_ (by assumption) | refine Below.setCell ?_ (by first | omega | (simp; done) | (simp; omega)) _))⟩
set_option maxHeartbeats 2000000 in
theorem implFree_yes (A : Option Addr) (c : Nat) (rows : List ArmsD) (a : ArmsD) (w : World) (h : RdR 15 w A (acs rows)) (hl : rows.length ≤ 1048576) (hn : freeOk rows a = true) :
    Calls Try.prog 25 #[.slice A rows.length c, .agg (ac a).toArray] w (IntsOk w (freeL rows a) (freeOk rows a)) := by
  obtain ⟨ho, ga, hgn⟩ := freeOk_parts hn
  have e1 : freeL rows a = freeK rows a 9 := by rw [freeL, hn]; rfl
  rw [e1, hn]
  have KL := fun (w' : World) (hb : Below w.heap.size w w') => areArms_any A c 16 rows w' (h.below hb) hl (by omega)
  have KA := fun w' => IsValidArmsC a w'
  rw [ho] at KL
  rw [ga] at KA
  have y1 := around_pos ga hgn
  have KL' := Lib.hid KL
  have KA' := Lib.hid KA
  have HN := Lib.hid hgn
  have HGA := Lib.hid ga
  have HO := Lib.hid ho
  have HH := Lib.hid h
  clear KL KA e1 ho ga hgn hn h
  go_enter Try.func25, Try.ntmps25
  go_wp2_with (first | (go_at_call 51; refine (KL'.out _ (by (repeat (first | exact Below.refl _ _ | assumption | refine Below_al ?_ _ | refine Below.drew ?_ | refine Below_then ?_ (by assumption) | refine Below.setCell ?_ (by first | omega | (simp; done) | (simp; omega)) _)))).mono ?_; rintro e w1 ⟨rfl, hb1⟩; have hr := blk_cells (heap_keepB (heap_hit _ _ _ rfl) hb1); have hB := heap_keepB (heap_hit w (.cells (ac a).toArray 34) _ rfl) hb1) | (go_at_call 39; refine (KA'.out _).mono ?_; rintro e w2 ⟨rfl, hb2⟩; have hB := heap_keepB hB hb2; obtain ⟨hc2, hf2⟩ := bcell hb2; have hz2 : w.heap.size < w1.heap.size := Nat.lt_of_lt_of_le (by first | omega | (simp; done) | (simp; omega)) hb1.size) | fail | fail)
  have hT : Below w.heap.size w w2 := by (repeat (first | exact Below.refl _ _ | assumption | refine Below_al ?_ _ | refine Below.drew ?_ | refine Below_then ?_ (by assumption) | refine Below.setCell ?_ (by first | omega | (simp; done) | (simp; omega)) _))
  have hO : OwnI (w2.alloc (.cells #[] 3)) (w.heap.size + 1) 3 (.slice (some ⟨w2.heap.size, 0, none⟩) 0 0) [] := OwnI.none0 w2 (w.heap.size + 1) w2.heap.size rfl (heap_lt hB)
  replace hB := heap_keepA hB (.cells #[] 3)
  replace hT := Below_al hT (.cells #[] 3)
  clear hr hb1 hb2 hc2 hf2 hz2 y1
  go_loopw [6, 7] (fun o x wr => ∃ (k : Nat) (y : Int) (v : Value), k ≤ 9 ∧ x = .int .i64 ((k : Int) + 1) ∧ o = v ∧ OwnI wr (w.heap.size + 1) 3 v (freeK rows a k) ∧ wr.heap[w.heap.size]? = some (.cells (ac (tinA a y)).toArray 34 (0, 0)) ∧ Below w.heap.size w wr) (fun _ x _ => 10 - (intOf x).toNat)
  case atStart => exact ⟨0, a.t2, _, by omega, rfl, rfl, by simpa [freeK] using hO, hB, hT⟩
  case round =>
    clear hO hB hT
    obtain ⟨k, y, v, hk, rfl, hov, hO, hB, hT⟩ := hrel
    replace hov := hov.symm
    subst hov
    have hlen := freeK_len rows a k
    by_cases hlt : k < 9
    · have i1 : (k : Int) + 1 ≤ 9 := by omega
      have c14 : wr.cell? ⟨w.heap.size, 14, none⟩ = some (.int .i64 y) := cell_of hB 14
      have f14 := frozen_of hB 14
      have hB2 : (wr.setCell ⟨w.heap.size, 14, none⟩ (.int .i64 ((k : Int) + 1))).heap[w.heap.size]? = some (.cells (ac (tinA a ((k : Int) + 1))).toArray 34 (0, 0)) := heap_set wr w.heap.size 14 (ac (tinA a y)).toArray _ (.int .i64 ((k : Int) + 1)) hB
      have hO2 : OwnI (wr.setCell ⟨w.heap.size, 14, none⟩ (.int .i64 ((k : Int) + 1))) (w.heap.size + 1) 3 v (freeK rows a k) := ownsRow_setCell_below hO (by simp) _
      have hT2 : Below w.heap.size w (wr.setCell ⟨w.heap.size, 14, none⟩ (.int .i64 ((k : Int) + 1))) := hT.setCell (Nat.le_refl _) _
      have gt : armsOk (tinA a ((k : Int) + 1)) = true := tinA_ok HGA.out HN.out (by omega) (by omega)
      have HG := Lib.hid gt
      have HB2 := Lib.hid hB2
      have HO2 := Lib.hid hO2
      clear hB hO hT gt hB2 hO2
      have HCl : ∀ (j : Nat) (b : ArmsD) (w' : World), rows[j]? = some b → Below (wr.setCell ⟨w.heap.size, 14, none⟩ (.int .i64 ((k : Int) + 1))).heap.size (wr.setCell ⟨w.heap.size, 14, none⟩ (.int .i64 ((k : Int) + 1))) w' → Calls Try.prog 55 (#[.agg (ac b).toArray] ++ #[.pointer (some ⟨w.heap.size, 0, none⟩)]) w' fun e w'' => e = .returned (.bool ((fun j => match rows[j]? with | some b => !(!confl (tinA a ((k : Int) + 1)) b) | none => false) j)) ∧ Below w'.heap.size w' w'' := by
        intro j b w' hj hb
        simp only [hj, Bool.not_not]
        exact free_cl _ b w.heap.size w' HG.out (listOk_at HO.out hj) (heap_keepB HB2.out hb)
      have KC := hasA_any 55 #[.pointer (some ⟨w.heap.size, 0, none⟩)] A c rows (fun j => match rows[j]? with | some b => !(!confl (tinA a ((k : Int) + 1)) b) | none => false) _ (HH.out.below hT2) hl cf_free HCl
      rw [anyN_all rows (fun b => !confl (tinA a ((k : Int) + 1)) b) _ (fun j b hj => by simp only [hj])] at KC
      have KC' := Lib.hid KC
      clear KC HCl
      go_wp2_with fail
      refine (KC'.out).mono ?_
      rintro e w5 ⟨rfl, hb5⟩
      have hO3 := HO2.out.below hb5
      have hB3 := heap_keepB HB2.out hb5
      have hT3 := Below_then hT2 hb5
      have hfp : (rows.all fun b => !confl (tinA a ((k : Int) + 1)) b) = freeP rows a k := rfl
      rw [hfp]
      clear hb5 hT2 hfp c14 f14
      cases hq : freeP rows a k
      · have HQ := Lib.hid hq
        clear hq
        go_wp2
        go_roundw
        case rel => exact ⟨k + 1, (k : Int) + 1, _, by omega, by go_num, rfl, by rw [freeK_no HQ.out]; exact hO3, hB3, hT3⟩
        case measure => simp [intOf]; omega
      · have HQ := Lib.hid hq
        have hne := ownBlock_ne (b := w.heap.size) (hO3.alloc (.cells #[.int .i64 ((k : Int) + 1)] 3)) (.inl (Nat.lt_succ_self _))
        have hz9 := heap_lt hB3
        clear hq
        go_wp2_with (first | (at_builtin; refine wp_appI rfl _ _ rfl (w.heap.size + 1) _ (freeK rows a k) rfl (hO3.alloc _) _ _ rfl (cell_of (heap_hit _ _ _ rfl) 0) ?c1 ?c2 ?_; rotate_left 2; intro v' w9 hO9 hG9 hL9) | fail)
        case c1 => omega
        case c2 => simp; omega
        have hB9 := heap_keepG (heap_keepA hB3 _) hG9 hne
        have hT9 := (Below_al hT3 _).trans (hL9.mono (Nat.le_succ _))
        clear hG9 hL9 hO3 hne
        go_wp2
        go_roundw
        case rel => exact ⟨k + 1, (k : Int) + 1, _, by omega, by go_num, rfl, by rw [freeK_yes HQ.out]; exact hO9, hB9, hT9⟩
        case measure => simp [intOf]; omega

    · obtain rfl : k = 9 := by omega
      go_wp2
      go_ret2
      exact ⟨_, rfl, OwnI.base hO (by omega), hT⟩
theorem implFree_any (A : Option Addr) (c : Nat) (rows : List ArmsD) (a : ArmsD) (w : World) (h : RdR 15 w A (acs rows)) (hl : rows.length ≤ 1048576) : Calls Try.prog 25 #[.slice A rows.length c, .agg (ac a).toArray] w (IntsOk w (freeL rows a) (freeOk rows a)) := by
  cases hn : freeOk rows a
  · rw [← hn]
    exact implFreeTinctures_no A c rows a w h hl hn
  · rw [← hn]
    exact implFree_yes A c rows a w h hl hn

set_option maxHeartbeats 4000000 in
theorem specFree_yes (A : Option Addr) (c : Nat) (rows : List ArmsD) (a : ArmsD) (w : World) (h : RdR 15 w A (acs rows)) (hl : rows.length ≤ 1048576) (hn : freeOk rows a = true) :
    Calls Try.prog 24 #[.slice A rows.length c, .agg (ac a).toArray] w (IntsOk w (freeL rows a) (freeOk rows a)) := by
  obtain ⟨ho, ga, hgn⟩ := freeOk_parts hn
  have e1 : freeL rows a = freeK rows a 9 := by rw [freeL, hn]; rfl
  rw [e1, hn]
  have KL := fun (w' : World) (hb : Below w.heap.size w w') => l15List_any A c rows w' (h.below hb) hl
  have KA := fun w' => l5GoodC a w'
  rw [ho] at KL
  rw [ga] at KA
  have y1 := around_pos ga hgn
  have KL' := Lib.hid KL
  have KA' := Lib.hid KA
  have HN := Lib.hid hgn
  have HGA := Lib.hid ga
  have HO := Lib.hid ho
  have HH := Lib.hid h
  clear KL KA e1 ho ga hgn hn h
  go_enter Try.func24, Try.ntmps24
  go_wp2_with (first | (go_at_call 49; refine (KL'.out _ (by (repeat (first | exact Below.refl _ _ | assumption | refine Below_al ?_ _ | refine Below.drew ?_ | refine Below_then ?_ (by assumption) | refine Below.setCell ?_ (by first | omega | (simp; done) | (simp; omega)) _)))).mono ?_; rintro e w1 ⟨rfl, hb1⟩; have hr := blk_cells (heap_keepB (heap_keepA (heap_hit _ _ _ rfl) _) hb1); have hB := heap_keepB (heap_keepA (heap_hit w (.cells (ac a).toArray 34) _ rfl) (.cells #[] 3)) hb1; have hO := (OwnI.none0 (w.alloc (.cells (ac a).toArray 34)) (w.heap.size + 1) (w.heap.size + 1) (by simp) (by omega)).below hb1) | (go_at_call 36; refine (KA'.out _).mono ?_; rintro e w2 ⟨rfl, hb2⟩; have hB := heap_keepB hB hb2; have hO := hO.below hb2; obtain ⟨hc2, hf2⟩ := bcell hb2; have hz2 : w.heap.size < w1.heap.size := Nat.lt_of_lt_of_le (by first | omega | (simp; done) | (simp; omega)) hb1.size) | (go_at_call 42; refine (l4None_any _ _ _ _ _).mono ?_; rw [HN.out]; rintro e w3 ⟨rfl, hb3⟩; have hO := hO.below hb3; have hB := heap_keepB hB hb3) | fail)
  have hT : Below w.heap.size w w3 := by (repeat (first | exact Below.refl _ _ | assumption | refine Below_al ?_ _ | refine Below.drew ?_ | refine Below_then ?_ (by assumption) | refine Below.setCell ?_ (by first | omega | (simp; done) | (simp; omega)) _))
  clear hr hb1 hb2 hc2 hf2 hz2 y1 hb3
  go_loopw [6, 7] (fun o x wr => ∃ (k : Nat) (y : Int) (v : Value), k ≤ 9 ∧ x = .int .i64 ((k : Int) + 1) ∧ o = v ∧ OwnI wr (w.heap.size + 1) 3 v (freeK rows a k) ∧ wr.heap[w.heap.size]? = some (.cells (ac (tinA a y)).toArray 34 (0, 0)) ∧ Below w.heap.size w wr) (fun _ x _ => 10 - (intOf x).toNat)
  case atStart => exact ⟨0, a.t2, _, by omega, rfl, rfl, by simpa [freeK] using hO, hB, hT⟩
  case round =>
    clear hO hB hT
    obtain ⟨k, y, v, hk, rfl, hov, hO, hB, hT⟩ := hrel
    replace hov := hov.symm
    subst hov
    have hlen := freeK_len rows a k
    by_cases hlt : k < 9
    · have i1 : (k : Int) + 1 ≤ 9 := by omega
      have c14 : wr.cell? ⟨w.heap.size, 14, none⟩ = some (.int .i64 y) := cell_of hB 14
      have f14 := frozen_of hB 14
      have hB2 : (wr.setCell ⟨w.heap.size, 14, none⟩ (.int .i64 ((k : Int) + 1))).heap[w.heap.size]? = some (.cells (ac (tinA a ((k : Int) + 1))).toArray 34 (0, 0)) := heap_set wr w.heap.size 14 (ac (tinA a y)).toArray _ (.int .i64 ((k : Int) + 1)) hB
      have hO2 : OwnI (wr.setCell ⟨w.heap.size, 14, none⟩ (.int .i64 ((k : Int) + 1))) (w.heap.size + 1) 3 v (freeK rows a k) := ownsRow_setCell_below hO (by simp) _
      have hT2 : Below w.heap.size w (wr.setCell ⟨w.heap.size, 14, none⟩ (.int .i64 ((k : Int) + 1))) := hT.setCell (Nat.le_refl _) _
      have gt : armsOk (tinA a ((k : Int) + 1)) = true := tinA_ok HGA.out HN.out (by omega) (by omega)
      have HG := Lib.hid gt
      have HB2 := Lib.hid hB2
      have HO2 := Lib.hid hO2
      clear hB hO hT gt hB2 hO2
      obtain ⟨ws, hws⟩ : ∃ x, x = wr.setCell ⟨w.heap.size, 14, none⟩ (.int .i64 ((k : Int) + 1)) := ⟨_, rfl⟩
      rw [← hws] at HB2 HO2 hT2
      go_wp2_with fail
      rw [← hws]
      clear hws c14 f14
      go_loopw [8, 9] (fun q i wr => ∃ (j : Nat) (f : Bool), j ≤ rows.length ∧ i = .int .i64 j ∧ q = .bool f ∧ f = ((rows.take j).all fun b => !confl (tinA a ((k : Int) + 1)) b) ∧ Below ws.heap.size ws wr) (fun _ i _ => rows.length - (intOf i).toNat)
      case atStart => exact ⟨0, true, by omega, rfl, rfl, by simp, Below.refl _ _⟩
      case round =>
        obtain ⟨j, f, hj, rfl, rfl, hf, hb6⟩ := hrel
        have HF := Lib.hid hf
        clear hf
        by_cases hj2 : j < rows.length
        · obtain ⟨x, hxr⟩ := arms_at hj2
          obtain ⟨b, off, rfl, hx, -⟩ := (HH.out.below (Below_then hT2 hb6)).arms hxr
          have hA0 := rangeAt_blk (heap_keepB HB2.out hb6)
          have KX := fun w => l15ConflictC x (tinA a ((k : Int) + 1)) w (listOk_at HO.out hxr) HG.out
          have HX := Lib.hid hxr
          have j1 : (j : Int) < (rows.length : Int) := by omega
          have d1 : decide (j < rows.length) = true := by simpa using hj2
          obtain ⟨cf, hcf⟩ : ∃ v, v = confl x (tinA a ((k : Int) + 1)) := ⟨_, rfl⟩
          rw [← hcf] at KX
          have HCF := Lib.hid hcf
          have KX' := Lib.hid KX
          clear KX hxr hcf
          cases f
          · go_wp2_with fail
            refine wp_region_noPanic ?_
            refine wp_region_held_drew (S := (fun w' => w'.rangeAt b (off + j * 15) (ac x) ∧ w'.rangeAt w.heap.size 0 (ac (tinA a ((k : Int) + 1))) ∧ Below wr.heap.size wr w')) (by kernel_rfl) ⟨hx, hA0, (Below.refl _ _).drew⟩ (fun hHeld => ?_)
            refine wpAnyH_take (i := 0) (oi := _) (v := ?_) rfl (by kernel_rfl) (by kernel_rfl) (by kernel_rfl) (fun _ _ _ h => h) (Or.inl ⟨by rfl, ?_⟩) (by assumption) ?_
            rotate_left
            · intro w hSw; clear hSw; first | (go_simp; done) | (go_simp; with_reducible rfl)
            simp only [Act.put, List.getElem_toArray, List.getElem_cons_succ, List.getElem_cons_zero, List.setIfInBounds_toArray, List.set_cons_zero, List.set_cons_succ]
            refine wpAnyH_take (i := 1) (oi := _) (v := ?_) rfl (by kernel_rfl) (by kernel_rfl) (by kernel_rfl) (fun _ _ _ h => h) (Or.inl ⟨by rfl, ?_⟩) (by assumption) ?_
            rotate_left
            · intro w hSw; clear hSw; first | (go_simp; done) | (go_simp; with_reducible rfl)
            simp only [Act.put, List.getElem_toArray, List.getElem_cons_succ, List.getElem_cons_zero, List.setIfInBounds_toArray, List.set_cons_zero, List.set_cons_succ]
            refine wpAnyH_take (i := 2) (oi := _) (v := _) rfl (by kernel_rfl) (by kernel_rfl) (by kernel_rfl) (fun _ _ _ h => h) (Or.inr ⟨by kernel_rfl, rfl⟩) (by assumption) ?_
            simp only [Act.put, List.getElem_toArray, List.getElem_cons_succ, List.getElem_cons_zero, List.setIfInBounds_toArray, List.set_cons_zero, List.set_cons_succ]
            refine wpAnyH_take (i := 3) (oi := _) (v := _) rfl (by kernel_rfl) (by kernel_rfl) (by kernel_rfl) (fun _ _ _ h => h) (Or.inr ⟨by kernel_rfl, rfl⟩) (by assumption) ?_
            simp only [Act.put, List.getElem_toArray, List.getElem_cons_succ, List.getElem_cons_zero, List.setIfInBounds_toArray, List.set_cons_zero, List.set_cons_succ]
            refine wpAnyH_take (i := 4) (oi := _) (v := _) rfl (by kernel_rfl) (by kernel_rfl) (by kernel_rfl) (fun _ _ _ h => h) (Or.inr ⟨by kernel_rfl, rfl⟩) (by assumption) ?_
            simp only [Act.put, List.getElem_toArray, List.getElem_cons_succ, List.getElem_cons_zero, List.setIfInBounds_toArray, List.set_cons_zero, List.set_cons_succ]
            refine wpAnyH_take (i := 5) (oi := _) (v := _) rfl (by kernel_rfl) (by kernel_rfl) (by kernel_rfl) (fun _ _ _ h => h) (Or.inr ⟨by kernel_rfl, rfl⟩) (by assumption) ?_
            simp only [Act.put, List.getElem_toArray, List.getElem_cons_succ, List.getElem_cons_zero, List.setIfInBounds_toArray, List.set_cons_zero, List.set_cons_succ]
            refine wpAnyH_take (i := 6) (oi := _) (v := _) rfl (by kernel_rfl) (by kernel_rfl) (by kernel_rfl) (fun _ _ _ h => h) (Or.inr ⟨by kernel_rfl, rfl⟩) (by assumption) ?_
            simp only [Act.put, List.getElem_toArray, List.getElem_cons_succ, List.getElem_cons_zero, List.setIfInBounds_toArray, List.set_cons_zero, List.set_cons_succ]
            refine wpAnyH_take (i := 7) (oi := _) (v := _) rfl (by kernel_rfl) (by kernel_rfl) (by kernel_rfl) (fun _ _ _ h => h) (Or.inr ⟨by kernel_rfl, rfl⟩) (by assumption) ?_
            simp only [Act.put, List.getElem_toArray, List.getElem_cons_succ, List.getElem_cons_zero, List.setIfInBounds_toArray, List.set_cons_zero, List.set_cons_succ]
            refine wpAnyH_take (i := 8) (oi := _) (v := _) rfl (by kernel_rfl) (by kernel_rfl) (by kernel_rfl) (fun _ _ _ h => h) (Or.inr ⟨by kernel_rfl, rfl⟩) (by assumption) ?_
            simp only [Act.put, List.getElem_toArray, List.getElem_cons_succ, List.getElem_cons_zero, List.setIfInBounds_toArray, List.set_cons_zero, List.set_cons_succ]
            refine wpAnyH_take (i := 9) (oi := _) (v := ?_) rfl (by kernel_rfl) (by kernel_rfl) (by kernel_rfl) (fun _ _ _ h => h) (Or.inl ⟨by rfl, ?_⟩) (by assumption) ?_
            rotate_left
            · intro w hSw; clear hSw; first | (go_simp; done) | (go_simp; with_reducible rfl)
            simp only [Act.put, List.getElem_toArray, List.getElem_cons_succ, List.getElem_cons_zero, List.setIfInBounds_toArray, List.set_cons_zero, List.set_cons_succ]
            refine wpAnyH_take (i := 10) (oi := _) (v := ?_) rfl (by kernel_rfl) (by kernel_rfl) (by kernel_rfl) (fun _ _ _ h => h) (Or.inl ⟨by rfl, ?_⟩) (by assumption) ?_
            rotate_left
            · intro w hSw; clear hSw; first | (go_simp; done) | (go_simp; with_reducible rfl)
            simp only [Act.put, List.getElem_toArray, List.getElem_cons_succ, List.getElem_cons_zero, List.setIfInBounds_toArray, List.set_cons_zero, List.set_cons_succ]
            refine wpAnyH_done (by kernel_rfl) ?_ _
            refine NoPanic.normal ?_

            go_wp2
            go_roundw
            case rel =>
              obtain ⟨-, -, sb⟩ : _ ∧ _ ∧ Below wr.heap.size wr _ := (by assumption)
              exact ⟨j + 1, false, by omega, by go_num, rfl, by rw [all_take_snoc rows _ HX.out, ← HF.out]; rfl, Below_then hb6 sb⟩
            case measure => simp [intOf]; omega
          · go_wp2_with fail
            refine wp_region_noPanic ?_
            refine wp_region_held_drew (S := (fun w' => w'.rangeAt b (off + j * 15) (ac x) ∧ w'.rangeAt w.heap.size 0 (ac (tinA a ((k : Int) + 1))) ∧ Below wr.heap.size wr w')) (by kernel_rfl) ⟨hx, hA0, (Below.refl _ _).drew⟩ (fun hHeld => ?_)
            refine wpAnyH_take (i := 0) (oi := _) (v := ?_) rfl (by kernel_rfl) (by kernel_rfl) (by kernel_rfl) (fun _ _ _ h => h) (Or.inl ⟨by rfl, ?_⟩) (by assumption) ?_
            rotate_left
            · intro w hSw; clear hSw; first | (go_simp; done) | (go_simp; with_reducible rfl)
            simp only [Act.put, List.getElem_toArray, List.getElem_cons_succ, List.getElem_cons_zero, List.setIfInBounds_toArray, List.set_cons_zero, List.set_cons_succ]
            refine wpAnyH_take (i := 1) (oi := _) (v := ?_) rfl (by kernel_rfl) (by kernel_rfl) (by kernel_rfl) (fun _ _ _ h => h) (Or.inl ⟨by rfl, ?_⟩) (by assumption) ?_
            rotate_left
            · intro w hSw; clear hSw; first | (go_simp; done) | (go_simp; with_reducible rfl)
            simp only [Act.put, List.getElem_toArray, List.getElem_cons_succ, List.getElem_cons_zero, List.setIfInBounds_toArray, List.set_cons_zero, List.set_cons_succ]
            refine wpAnyH_take (i := 2) (oi := _) (v := ?_) rfl (by kernel_rfl) (by kernel_rfl) (by kernel_rfl) (fun _ _ _ h => h) (Or.inl ⟨by rfl, ?_⟩) (by assumption) ?_
            rotate_left
            · intro w hSw; clear hSw; first | (go_simp; done) | (go_simp; with_reducible rfl)
            simp only [Act.put, List.getElem_toArray, List.getElem_cons_succ, List.getElem_cons_zero, List.setIfInBounds_toArray, List.set_cons_zero, List.set_cons_succ]
            refine wpAnyH_take (i := 3) (oi := _) (v := ?_) rfl (by kernel_rfl) (by kernel_rfl) (by kernel_rfl) (fun _ _ _ h => h) (Or.inl ⟨by rfl, ?_⟩) (by assumption) ?_
            rotate_left
            · intro w hSw; clear hSw; first | (go_simp; done) | (go_simp; with_reducible rfl)
            simp only [Act.put, List.getElem_toArray, List.getElem_cons_succ, List.getElem_cons_zero, List.setIfInBounds_toArray, List.set_cons_zero, List.set_cons_succ]
            refine wpAnyH_take (i := 4) (oi := _) (v := ?_) rfl (by kernel_rfl) (by kernel_rfl) (by kernel_rfl) (fun _ _ _ h => h) (Or.inl ⟨by rfl, ?_⟩) (by assumption) ?_
            rotate_left
            · intro w hSw; clear hSw; first | (go_simp; done) | (go_simp; with_reducible rfl)
            simp only [Act.put, List.getElem_toArray, List.getElem_cons_succ, List.getElem_cons_zero, List.setIfInBounds_toArray, List.set_cons_zero, List.set_cons_succ]
            refine wpAnyH_take (i := 5) (oi := _) (v := _) rfl ?g1_1 ?g2_1 ?g3_1 (fun _ _ _ h => h) (yieldsIf_load_mid ?g4_1 _ _ rfl b ?oo_1 ?g5_1 (ac x) _ ?g6_1 Try.underlying34 rfl (info_ac x)) ?g7_1 ?_
            case g5_1 => rfl
            case g1_1 => kernel_rfl
            case g2_1 => kernel_rfl
            case g3_1 => kernel_rfl
            case g6_1 => exact (fun _ h => h.1)
            case g4_1 => kernel_rfl
            case g7_1 => assumption
            simp only [Act.put, List.getElem_toArray, List.getElem_cons_succ, List.getElem_cons_zero, List.setIfInBounds_toArray, List.set_cons_zero, List.set_cons_succ]
            refine wpAnyH_take (i := 6) (oi := _) (v := _) rfl ?g1_2 ?g2_2 ?g3_2 (fun _ _ _ h => h) (yieldsIf_load_mid ?g4_2 _ _ rfl w.heap.size ?oo_2 ?g5_2 (ac (tinA a ((k : Int) + 1))) _ ?g6_2 Try.underlying34 rfl (info_ac _)) ?g7_2 ?_
            case g5_2 => rfl
            case g1_2 => kernel_rfl
            case g2_2 => kernel_rfl
            case g3_2 => kernel_rfl
            case g6_2 => exact (fun _ h => h.2.1)
            case g4_2 => kernel_rfl
            case g7_2 => assumption
            simp only [Act.put, List.getElem_toArray, List.getElem_cons_succ, List.getElem_cons_zero, List.setIfInBounds_toArray, List.set_cons_zero, List.set_cons_succ]
            refine wpAnyH_ready (rs := [7]) (by kernel_rfl) (by simp) ?_
            refine AllReadyH.cons (o := _) rfl (fun K hK => ?_) AllReadyH.nil
            go_simp
            refine (KX'.out _).mono ?_
            rintro e x2 ⟨rfl, hx2⟩
            go_wp2_with fail
            refine hK.out _ _ (heldRR hHeld hx2) (fun hHeld => ?_)
            clear hK K
            try simp only [Act.put, List.getElem_toArray, List.getElem_cons_succ, List.getElem_cons_zero, List.setIfInBounds_toArray, List.set_cons_zero, List.set_cons_succ]
            refine wpAnyH_take (i := 8) (oi := _) (v := ?_) rfl (by kernel_rfl) (by kernel_rfl) (by kernel_rfl) (fun _ _ _ h => h) (Or.inl ⟨by rfl, ?_⟩) (by assumption) ?_
            rotate_left
            · intro w hSw; clear hSw; first | (go_simp; done) | (go_simp; with_reducible rfl)
            simp only [Act.put, List.getElem_toArray, List.getElem_cons_succ, List.getElem_cons_zero, List.setIfInBounds_toArray, List.set_cons_zero, List.set_cons_succ]
            refine wpAnyH_take (i := 9) (oi := _) (v := ?_) rfl (by kernel_rfl) (by kernel_rfl) (by kernel_rfl) (fun _ _ _ h => h) (Or.inl ⟨by rfl, ?_⟩) (by assumption) ?_
            rotate_left
            · intro w hSw; clear hSw; first | (go_simp; done) | (go_simp; with_reducible rfl)
            simp only [Act.put, List.getElem_toArray, List.getElem_cons_succ, List.getElem_cons_zero, List.setIfInBounds_toArray, List.set_cons_zero, List.set_cons_succ]
            refine wpAnyH_take (i := 10) (oi := _) (v := ?_) rfl (by kernel_rfl) (by kernel_rfl) (by kernel_rfl) (fun _ _ _ h => h) (Or.inl ⟨by rfl, ?_⟩) (by assumption) ?_
            rotate_left
            · intro w hSw; clear hSw; first | (go_simp; done) | (go_simp; with_reducible rfl)
            simp only [Act.put, List.getElem_toArray, List.getElem_cons_succ, List.getElem_cons_zero, List.setIfInBounds_toArray, List.set_cons_zero, List.set_cons_succ]
            refine wpAnyH_done (by kernel_rfl) ?_ _
            refine NoPanic.normal ?_

            go_wp2
            go_roundw
            case rel =>
              obtain ⟨-, -, sb⟩ : _ ∧ _ ∧ Below wr.heap.size wr _ := (by assumption)
              exact ⟨j + 1, !cf, by omega, by go_num, rfl, by rw [all_take_snoc rows _ HX.out, ← HF.out, Bool.true_and, HCF.out, confl_comm], Below_then hb6 sb⟩
            case measure => simp [intOf]; omega
        · obtain rfl : j = rows.length := by omega
          have d1 : decide (rows.length < rows.length) = false := by simp
          have hO3 := HO2.out.below hb6
          have hB3 := heap_keepB HB2.out hb6
          have hT3 := Below_then hT2 hb6
          have hfp : f = freeP rows a k := by rw [HF.out, List.take_length]; rfl
          rw [hfp]
          clear hb6 hT2 hfp HF
          cases hq : freeP rows a k
          · have HQ := Lib.hid hq
            clear hq
            go_wp2
            go_roundw
            case rel => exact ⟨k + 1, (k : Int) + 1, _, by omega, by go_num, rfl, by rw [freeK_no HQ.out]; exact hO3, hB3, hT3⟩
            case measure => simp [intOf]; omega
          · have HQ := Lib.hid hq
            have hne := ownBlock_ne (b := w.heap.size) (hO3.alloc (.cells #[.int .i64 ((k : Int) + 1)] 3)) (.inl (Nat.lt_succ_self _))
            have hz9 := heap_lt hB3
            clear hq
            go_wp2_with (first | (at_builtin; refine wp_appI rfl _ _ rfl (w.heap.size + 1) _ (freeK rows a k) rfl (hO3.alloc _) _ _ rfl (cell_of (heap_hit _ _ _ rfl) 0) ?c1 ?c2 ?_; rotate_left 2; intro v' w9 hO9 hG9 hL9) | fail)
            case c1 => omega
            case c2 => simp; omega
            have hB9 := heap_keepG (heap_keepA hB3 _) hG9 hne
            have hT9 := (Below_al hT3 _).trans (hL9.mono (Nat.le_succ _))
            clear hG9 hL9 hO3 hne
            go_wp2
            go_roundw
            case rel => exact ⟨k + 1, (k : Int) + 1, _, by omega, by go_num, rfl, by rw [freeK_yes HQ.out]; exact hO9, hB9, hT9⟩
            case measure => simp [intOf]; omega

    · obtain rfl : k = 9 := by omega
      go_wp2
      go_ret2
      exact ⟨_, rfl, OwnI.base hO (by omega), hT⟩
theorem specFree_any (A : Option Addr) (c : Nat) (rows : List ArmsD) (a : ArmsD) (w : World) (h : RdR 15 w A (acs rows)) (hl : rows.length ≤ 1048576) : Calls Try.prog 24 #[.slice A rows.length c, .agg (ac a).toArray] w (IntsOk w (freeL rows a) (freeOk rows a)) := by
  cases hn : freeOk rows a
  · rw [← hn]
    exact specFreeTinctures_no A c rows a w h hl hn
  · rw [← hn]
    exact specFree_yes A c rows a w h hl hn
end Go.Proofs.Ytpboheaiigbfbaa
