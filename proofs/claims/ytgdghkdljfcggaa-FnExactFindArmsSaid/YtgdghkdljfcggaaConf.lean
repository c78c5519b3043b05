/- Contracts: ConflictsWith, both sides. -/
import Derived.Test.YtgdghkdljfcggaaNums
namespace Go.Proofs.Ytgdghkdljfcggaa
open Go.ChangeShapes Go.WideShapes Go.ChangeAt Go.RowKit
set_option linter.unusedVariables false
set_option linter.unusedSimpArgs false
theorem blk_cells {w : World} {a : ArmsD} {g : Nat} {T : TypeId} (h : w.heap[g]? = some (.cells (ac a).toArray T (0, 0))) : w.cell? ⟨g, 0, none⟩ = some (.int .i64 a.d) ∧ w.cell? ⟨g, 1, none⟩ = some (.int .i64 a.l) ∧ w.cell? ⟨g, 2, none⟩ = some (.int .i64 a.p) ∧ w.cell? ⟨g, 3, none⟩ = some (.int .i64 a.q) ∧ w.cell? ⟨g, 4, none⟩ = some (.int .i64 a.o) ∧ w.cell? ⟨g, 5, none⟩ = some (.int .i64 a.li) ∧ w.cell? ⟨g, 6, none⟩ = some (.int .i64 a.t) ∧ w.cell? ⟨g, 7, none⟩ = some (.int .i64 a.c1) ∧ w.cell? ⟨g, 8, none⟩ = some (.int .i64 a.k1) ∧ w.cell? ⟨g, 9, none⟩ = some (.int .i64 a.a1) ∧ w.cell? ⟨g, 10, none⟩ = some (.int .i64 a.t1) ∧ w.cell? ⟨g, 11, none⟩ = some (.int .i64 a.c2) ∧ w.cell? ⟨g, 12, none⟩ = some (.int .i64 a.k2) ∧ w.cell? ⟨g, 13, none⟩ = some (.int .i64 a.a2) ∧ w.cell? ⟨g, 14, none⟩ = some (.int .i64 a.t2) :=
  ⟨cell_of h 0, cell_of h 1, cell_of h 2, cell_of h 3, cell_of h 4, cell_of h 5, cell_of h 6, cell_of h 7, cell_of h 8, cell_of h 9, cell_of h 10, cell_of h 11, cell_of h 12, cell_of h 13, cell_of h 14⟩
theorem regOk_mem {rows : List GrantD} (h : regOk rows = true) {g : GrantD} (hg : g ∈ rows) : armsOk g.a = true := by
  obtain ⟨i, hi⟩ := List.getElem?_of_mem hg
  exact regOk_arms h hi
theorem confL_len (rows : List GrantD) (a : ArmsD) : (bif regOk rows && armsOk a then nums rows (fun g => confl g.a a) else []).length ≤ rows.length := by
  cases regOk rows && armsOk a
  · simp
  · exact nums_len rows _
theorem IsValidArmsC (a : ArmsD) (w : World) : Calls Try.prog 41 #[.agg (ac a).toArray] w fun e w' => e = .returned (.bool (armsOk a)) ∧ Below w.heap.size w w' := IsValidArms_any a w
theorem l5GoodC (a : ArmsD) (w : World) : Calls Try.prog 53 #[.agg (ac a).toArray] w fun e w' => e = .returned (.bool (armsOk a)) ∧ Below w.heap.size w w' := l5Good_any a w
set_option maxHeartbeats 4000000 in
theorem l16Conflicts_any (A : Option Addr) (c : Nat) (rows : List GrantD) (a : ArmsD) (w : World) (hr : RdR 18 w A (gcs rows)) (hl : rows.length ≤ 1048576) (hv : regOk rows = true) (ga : armsOk a = true) :
    Calls Try.prog 54 #[.agg #[.slice A rows.length c], .agg (ac a).toArray] w (Fresh w (nums rows (fun g => confl g.a a))) := by
  have HV := Lib.hid hv
  have HGA := Lib.hid ga
  have HH := Lib.hid hr
  have hO0 : OwnI (((w.alloc (.cells #[.slice A rows.length c] 29)).alloc (.cells (ac a).toArray 44)).alloc (.cells #[] 3)) (w.heap.size + 1 + 1) 3 (.slice (some ⟨w.heap.size + 1 + 1, 0, none⟩) 0 0) [] := OwnI.none0 _ _ _ (by simp) (by omega)
  clear hv ga
  go_enter Try.func54, Try.ntmps54
  go_wp2_with fail
  go_loopw [5, 6] (fun o i wr => ∃ (k : Nat) (v : Value), k ≤ rows.length ∧ i = .int .i64 k ∧ o = v ∧ OwnI wr (w.heap.size + 1 + 1) 3 v (nums (rows.take k) (fun g => confl g.a a)) ∧ wr.heap[w.heap.size]? = some (.cells #[.slice A rows.length c] 29 (0, 0)) ∧ wr.heap[w.heap.size + 1]? = some (.cells (ac a).toArray 44 (0, 0)) ∧ Below w.heap.size w wr) (fun _ i _ => rows.length - (intOf i).toNat)
  case atStart => exact ⟨0, _, Nat.zero_le _, rfl, rfl, by simpa [nums] using hO0, heap_keepA (heap_keepA (heap_hit _ _ _ rfl) _) _, heap_keepA (heap_hit _ _ _ (by simp)) _, by (repeat (first | exact Below.refl _ _ | assumption | refine Below_al ?_ _ | refine Below.drew ?_ | refine Below_then ?_ (by assumption) | refine Below.setCell ?_ (by first | omega | (simp; done) | (simp; omega)) _))⟩
  case round =>
    clear hO0
    obtain ⟨k, v, hk, rfl, hov, hO, hH, hA, hb⟩ := hrel
    replace hov := hov.symm
    subst hov
    have cH := cell_of hH 0
    by_cases hlt : k < rows.length
    · obtain ⟨g, hg⟩ := grant_at hlt
      obtain ⟨b, off, rfl, hr, -⟩ := (HH.out.below hb).grants hg
      obtain ⟨cn, -, -, hga⟩ := gc_cells hr
      have hAa := rangeAt_blk hA
      have hlen := nums_take rows (fun g => confl g.a a) k hk
      have i1 : (k : Int) < (rows.length : Int) := by omega
      have d1 : decide (k < rows.length) = true := by simpa using hlt
      have KC := fun w => l15ConflictC g.a a w (regOk_arms HV.out hg) HGA.out
      have HG := Lib.hid hg
      have hws := hb.size
      have hAl := heap_lt hA
      clear hg
      cases hq : confl g.a a
      · rw [hq] at KC
        have HQ := Lib.hid hq
        have KC' := Lib.hid KC
        clear KC hq
        go_wp2_with fail
        refine wp_region_noPanic ?_
        refine wp_region_held_drew (S := (fun w' => w'.cell? ⟨w.heap.size, 0, none⟩ = some (.slice (some ⟨b, off, none⟩) rows.length c : Value) ∧ w'.rangeAt b (off + k * 18 + 3) (ac g.a) ∧ w'.rangeAt (w.heap.size + 1) 0 (ac a) ∧ Below wr.heap.size wr w')) (by kernel_rfl) ⟨cH, hga, hAa, (Below.refl _ _).drew⟩ (fun hHeld => ?_)
        refine wpAnyH_take (i := 0) (oi := _) (v := ?_) rfl (by kernel_rfl) (by kernel_rfl) (by kernel_rfl) (fun _ _ _ h => h) (Or.inl ⟨by rfl, ?_⟩) (by assumption) ?_
        rotate_left
        · intro w hSw; clear hSw; first | (go_simp; done) | (go_simp; with_reducible rfl)
        simp only [Act.put, List.getElem_toArray, List.getElem_cons_succ, List.getElem_cons_zero, List.setIfInBounds_toArray, List.set_cons_zero, List.set_cons_succ]
        refine wpAnyH_take (i := 1) (oi := _) (v := ?_) rfl (by kernel_rfl) (by kernel_rfl) (by kernel_rfl) (fun _ _ _ h => h) (Or.inl ⟨by rfl, ?_⟩) (by assumption) ?_
        rotate_left
        · intro w hSw; (try dsimp only at hSw); first | (go_simp; done) | (go_simp; with_reducible rfl)
        simp only [Act.put, List.getElem_toArray, List.getElem_cons_succ, List.getElem_cons_zero, List.setIfInBounds_toArray, List.set_cons_zero, List.set_cons_succ]
        refine wpAnyH_take (i := 2) (oi := _) (v := ?_) rfl (by kernel_rfl) (by kernel_rfl) (by kernel_rfl) (fun _ _ _ h => h) (Or.inl ⟨by rfl, ?_⟩) (by assumption) ?_
        rotate_left
        · intro w hSw; clear hSw; first | (go_simp; done) | (go_simp; with_reducible rfl)
        simp only [Act.put, List.getElem_toArray, List.getElem_cons_succ, List.getElem_cons_zero, List.setIfInBounds_toArray, List.set_cons_zero, List.set_cons_succ]
        refine wpAnyH_take (i := 3) (oi := _) (v := ?_) rfl (by kernel_rfl) (by kernel_rfl) (by kernel_rfl) (fun _ _ _ h => h) (Or.inl ⟨by rfl, ?_⟩) (by assumption) ?_
        rotate_left
        · intro w hSw; clear hSw; first | (go_simp; done) | (go_simp; with_reducible rfl)
        simp only [Act.put, List.getElem_toArray, List.getElem_cons_succ, List.getElem_cons_zero, List.setIfInBounds_toArray, List.set_cons_zero, List.set_cons_succ]
        refine wpAnyH_take (i := 4) (oi := _) (v := ?_) rfl (by kernel_rfl) (by kernel_rfl) (by kernel_rfl) (fun _ _ _ h => h) (Or.inl ⟨by rfl, ?_⟩) (by assumption) ?_
        rotate_left
        · intro w hSw; clear hSw; first | (go_simp; done) | (go_simp; with_reducible rfl)
        simp only [Act.put, List.getElem_toArray, List.getElem_cons_succ, List.getElem_cons_zero, List.setIfInBounds_toArray, List.set_cons_zero, List.set_cons_succ]
        refine wpAnyH_take (i := 5) (oi := _) (v := _) rfl ?g1_1 ?g2_1 ?g3_1 (fun _ _ _ h => h) (yieldsIf_load_mid ?g4_1 _ _ rfl b ?oo_1 ?g5_1 (ac g.a) _ ?g6_1 Try.underlying44 rfl (info_ac g.a)) ?g7_1 ?_
        case g5_1 => rfl
        case g1_1 => kernel_rfl
        case g2_1 => kernel_rfl
        case g3_1 => kernel_rfl
        case g6_1 => exact (fun _ h => h.2.1)
        case g4_1 => kernel_rfl
        case g7_1 => assumption
        simp only [Act.put, List.getElem_toArray, List.getElem_cons_succ, List.getElem_cons_zero, List.setIfInBounds_toArray, List.set_cons_zero, List.set_cons_succ]
        refine wpAnyH_take (i := 6) (oi := _) (v := _) rfl ?g1_2 ?g2_2 ?g3_2 (fun _ _ _ h => h) (yieldsIf_load_mid ?g4_2 _ _ rfl (w.heap.size + 1) ?oo_2 ?g5_2 (ac a) _ ?g6_2 Try.underlying44 rfl (info_ac a)) ?g7_2 ?_
        case g5_2 => rfl
        case g1_2 => kernel_rfl
        case g2_2 => kernel_rfl
        case g3_2 => kernel_rfl
        case g6_2 => exact (fun _ h => h.2.2.1)
        case g4_2 => kernel_rfl
        case g7_2 => assumption
        simp only [Act.put, List.getElem_toArray, List.getElem_cons_succ, List.getElem_cons_zero, List.setIfInBounds_toArray, List.set_cons_zero, List.set_cons_succ]
        refine wpAnyH_ready (rs := [7]) (by kernel_rfl) (by simp) ?_
        refine AllReadyH.cons (o := _) rfl (fun K hK => ?_) AllReadyH.nil
        go_simp
        refine (KC'.out _).mono ?_
        rintro e x2 ⟨rfl, hx2⟩
        go_wp2_with fail
        refine hK.out _ _ ⟨keep_cell hHeld.1 hx2, rangeAt_below hHeld.2.1 hx2, rangeAt_below hHeld.2.2.1 hx2, Below_then hHeld.2.2.2 hx2⟩ (fun hHeld => ?_)
        clear hK K
        try simp only [Act.put, List.getElem_toArray, List.getElem_cons_succ, List.getElem_cons_zero, List.setIfInBounds_toArray, List.set_cons_zero, List.set_cons_succ]
        refine wpAnyH_done (by kernel_rfl) ?_ _
        refine NoPanic.normal ?_

        have sb := hHeld.2.2.2
        have hO := hO.below sb
        have hH := heap_keepB hH sb
        have hA := heap_keepB hA sb
        have hb := Below_then hb sb
        clear hHeld sb cH
        go_wp2
        go_roundw
        case rel => exact ⟨k + 1, _, by omega, by go_num, rfl, by rw [nums_no HG.out HQ.out]; exact hO, hH, hA, hb⟩
        case measure => simp [intOf]; omega
      · rw [hq] at KC
        have HQ := Lib.hid hq
        have KC' := Lib.hid KC
        clear KC hq
        go_wp2_with fail
        refine wp_region_noPanic ?_
        refine wp_region_held_drew (S := (fun w' => w'.cell? ⟨w.heap.size, 0, none⟩ = some (.slice (some ⟨b, off, none⟩) rows.length c : Value) ∧ w'.rangeAt b (off + k * 18 + 3) (ac g.a) ∧ w'.rangeAt (w.heap.size + 1) 0 (ac a) ∧ Below wr.heap.size wr w')) (by kernel_rfl) ⟨cH, hga, hAa, (Below.refl _ _).drew⟩ (fun hHeld => ?_)
        refine wpAnyH_take (i := 0) (oi := _) (v := ?_) rfl (by kernel_rfl) (by kernel_rfl) (by kernel_rfl) (fun _ _ _ h => h) (Or.inl ⟨by rfl, ?_⟩) (by assumption) ?_
        rotate_left
        · intro w hSw; clear hSw; first | (go_simp; done) | (go_simp; with_reducible rfl)
        simp only [Act.put, List.getElem_toArray, List.getElem_cons_succ, List.getElem_cons_zero, List.setIfInBounds_toArray, List.set_cons_zero, List.set_cons_succ]
        refine wpAnyH_take (i := 1) (oi := _) (v := ?_) rfl (by kernel_rfl) (by kernel_rfl) (by kernel_rfl) (fun _ _ _ h => h) (Or.inl ⟨by rfl, ?_⟩) (by assumption) ?_
        rotate_left
        · intro w hSw; (try dsimp only at hSw); first | (go_simp; done) | (go_simp; with_reducible rfl)
        simp only [Act.put, List.getElem_toArray, List.getElem_cons_succ, List.getElem_cons_zero, List.setIfInBounds_toArray, List.set_cons_zero, List.set_cons_succ]
        refine wpAnyH_take (i := 2) (oi := _) (v := ?_) rfl (by kernel_rfl) (by kernel_rfl) (by kernel_rfl) (fun _ _ _ h => h) (Or.inl ⟨by rfl, ?_⟩) (by assumption) ?_
        rotate_left
        · intro w hSw; clear hSw; first | (go_simp; done) | (go_simp; with_reducible rfl)
        simp only [Act.put, List.getElem_toArray, List.getElem_cons_succ, List.getElem_cons_zero, List.setIfInBounds_toArray, List.set_cons_zero, List.set_cons_succ]
        refine wpAnyH_take (i := 3) (oi := _) (v := ?_) rfl (by kernel_rfl) (by kernel_rfl) (by kernel_rfl) (fun _ _ _ h => h) (Or.inl ⟨by rfl, ?_⟩) (by assumption) ?_
        rotate_left
        · intro w hSw; clear hSw; first | (go_simp; done) | (go_simp; with_reducible rfl)
        simp only [Act.put, List.getElem_toArray, List.getElem_cons_succ, List.getElem_cons_zero, List.setIfInBounds_toArray, List.set_cons_zero, List.set_cons_succ]
        refine wpAnyH_take (i := 4) (oi := _) (v := ?_) rfl (by kernel_rfl) (by kernel_rfl) (by kernel_rfl) (fun _ _ _ h => h) (Or.inl ⟨by rfl, ?_⟩) (by assumption) ?_
        rotate_left
        · intro w hSw; clear hSw; first | (go_simp; done) | (go_simp; with_reducible rfl)
        simp only [Act.put, List.getElem_toArray, List.getElem_cons_succ, List.getElem_cons_zero, List.setIfInBounds_toArray, List.set_cons_zero, List.set_cons_succ]
        refine wpAnyH_take (i := 5) (oi := _) (v := _) rfl ?g1_1 ?g2_1 ?g3_1 (fun _ _ _ h => h) (yieldsIf_load_mid ?g4_1 _ _ rfl b ?oo_1 ?g5_1 (ac g.a) _ ?g6_1 Try.underlying44 rfl (info_ac g.a)) ?g7_1 ?_
        case g5_1 => rfl
        case g1_1 => kernel_rfl
        case g2_1 => kernel_rfl
        case g3_1 => kernel_rfl
        case g6_1 => exact (fun _ h => h.2.1)
        case g4_1 => kernel_rfl
        case g7_1 => assumption
        simp only [Act.put, List.getElem_toArray, List.getElem_cons_succ, List.getElem_cons_zero, List.setIfInBounds_toArray, List.set_cons_zero, List.set_cons_succ]
        refine wpAnyH_take (i := 6) (oi := _) (v := _) rfl ?g1_2 ?g2_2 ?g3_2 (fun _ _ _ h => h) (yieldsIf_load_mid ?g4_2 _ _ rfl (w.heap.size + 1) ?oo_2 ?g5_2 (ac a) _ ?g6_2 Try.underlying44 rfl (info_ac a)) ?g7_2 ?_
        case g5_2 => rfl
        case g1_2 => kernel_rfl
        case g2_2 => kernel_rfl
        case g3_2 => kernel_rfl
        case g6_2 => exact (fun _ h => h.2.2.1)
        case g4_2 => kernel_rfl
        case g7_2 => assumption
        simp only [Act.put, List.getElem_toArray, List.getElem_cons_succ, List.getElem_cons_zero, List.setIfInBounds_toArray, List.set_cons_zero, List.set_cons_succ]
        refine wpAnyH_ready (rs := [7]) (by kernel_rfl) (by simp) ?_
        refine AllReadyH.cons (o := _) rfl (fun K hK => ?_) AllReadyH.nil
        go_simp
        refine (KC'.out _).mono ?_
        rintro e x2 ⟨rfl, hx2⟩
        go_wp2_with fail
        refine hK.out _ _ ⟨keep_cell hHeld.1 hx2, rangeAt_below hHeld.2.1 hx2, rangeAt_below hHeld.2.2.1 hx2, Below_then hHeld.2.2.2 hx2⟩ (fun hHeld => ?_)
        clear hK K
        try simp only [Act.put, List.getElem_toArray, List.getElem_cons_succ, List.getElem_cons_zero, List.setIfInBounds_toArray, List.set_cons_zero, List.set_cons_succ]
        refine wpAnyH_done (by kernel_rfl) ?_ _
        refine NoPanic.normal ?_

        have sb := hHeld.2.2.2
        have hO := hO.below sb
        have hH := heap_keepB hH sb
        have hA := heap_keepB hA sb
        have hb := Below_then hb sb
        have cn := keep_cell cn sb
        have cH := cell_of hH 0
        have hws := hb.size
        have hAl := heap_lt hA
        have hne := ownBlock_ne (b := w.heap.size) (hO.alloc (.cells #[.int .i64 g.n] 3)) (.inl (by omega))
        have hne2 := ownBlock_ne (b := w.heap.size + 1) (hO.alloc (.cells #[.int .i64 g.n] 3)) (.inl (by omega))
        clear hHeld sb
        go_wp2_with (first | (at_builtin; refine wp_appI rfl _ _ rfl (w.heap.size + 1 + 1) _ (nums (rows.take k) (fun g => confl g.a a)) rfl (hO.alloc _) _ _ rfl (cell_of (heap_hit _ _ _ rfl) 0) ?c1 ?c2 ?_; rotate_left 2; intro v' w9 hO9 hG9 hL9) | fail)
        try (case c1 => omega)
        try (case c2 => (simp; omega))
        have hH9 := heap_keepG (heap_keepA hH _) hG9 hne
        have hA9 := heap_keepG (heap_keepA hA _) hG9 hne2
        have hT9 := (Below_al hb _).trans (hL9.mono (by omega))
        clear hG9 hL9 hO hH hA cH hne hne2
        go_wp2
        go_roundw
        case rel => exact ⟨k + 1, _, by omega, by go_num, rfl, by rw [nums_yes HG.out HQ.out]; exact hO9, hH9, hA9, hT9⟩
        case measure => simp [intOf]; omega
    · obtain rfl : k = rows.length := by omega
      have d1 : decide (rows.length < rows.length) = false := by simp
      rw [List.take_length] at hO
      go_wp2
      go_ret
      exact ⟨_, rfl, OwnI.base hO (by omega), hb⟩

theorem cf_cw (args : Array Value) (w : World) : (callFunc 55 args).run Try.prog w = .ok (.enter 55 args) w := by kernel_rfl
theorem cw_cl (g : GrantD) (a : ArmsD) (D : Nat) (w : World) (gg : armsOk g.a = true) (ga : armsOk a = true) (hB : w.heap[D]? = some (.cells (ac a).toArray 44 (0, 0))) :
    Calls Try.prog 55 #[.agg (gc g).toArray, .pointer (some ⟨D, 0, none⟩)] w fun e w' => e = .returned (.bool (confl g.a a)) ∧ Below w.heap.size w w' := by
  have K := fun w => conflictC g.a a w gg ga
  generalize confl g.a a = x at *
  have K' := Lib.hid K
  have hA := rangeAt_blk (heap_keepA hB (.cells (gc g).toArray 68))
  have hA2 := (gblk_cells (heap_hit w (.cells (gc g).toArray 68) _ rfl)).2.2.2
  clear K gg ga
  go_enter Try.func55, Try.ntmps55
  go_wp2_with (first | (refine ldA rfl _ rfl _ _ rfl _ (by assumption) ?_) | fail)
  refine (K'.out _).mono ?_
  rintro e w1 ⟨rfl, hb1⟩
  go_wp2
  go_ret
  exact ⟨rfl, by (repeat (first | exact Below.refl _ _ | assumption | refine Below_al ?_ _ | refine Below.drew ?_ | refine Below_then ?_ (by assumption) | refine Below.setCell ?_ (by first | omega | (simp; done) | (simp; omega)) _))⟩

set_option maxHeartbeats 4000000 in
theorem specConflictsWith_any (A : Option Addr) (c : Nat) (rows : List GrantD) (a : ArmsD) (w : World) (hr : RdR 18 w A (gcs rows)) (hl : rows.length ≤ 1048576) (hs : ∀ g ∈ rows, g.s.size ≤ maxLen) :
    Calls Try.prog 27 #[.agg #[.slice A rows.length c], .agg (ac a).toArray] w (IntsOk w (bif regOk rows && armsOk a then nums rows (fun g => confl g.a a) else []) (regOk rows && armsOk a)) := by
  have KV := fun (w' : World) (hb : Below w.heap.size w w') => l16Good_any A c rows w' (hr.below hb) hl hs
  have KA := fun w' => l5GoodC a w'
  have HH := Lib.hid hr
  cases q : regOk rows
  · rw [q] at KV
    have KV' := Lib.hid KV
    clear KV KA q hs hr
    go_enter Try.func27, Try.ntmps27
    go_wp2_with (first | (go_at_call 37; refine (KV'.out _ (by (repeat (first | exact Below.refl _ _ | assumption | refine Below_al ?_ _ | refine Below.drew ?_ | refine Below_then ?_ (by assumption) | refine Below.setCell ?_ (by first | omega | (simp; done) | (simp; omega)) _)))).mono ?_; rintro e w1 ⟨rfl, hb1⟩; have hA1 := heap_keepB (heap_hit (w.alloc (.cells #[.slice A rows.length c] 29)) (.cells (ac a).toArray 44) (w.heap.size + 1) (by simp)) hb1; have hH1 := heap_keepB (heap_keepA (heap_hit w (.cells #[.slice A rows.length c] 29) _ rfl) (.cells (ac a).toArray 44)) hb1; have hcells := blk_cells hA1) | fail)
    go_ret2
    exact ⟨_, rfl, OwnI.base (OwnI.none0 _ _ _ rfl (Nat.le_refl _)) (by have := hb1.size; simp at this; omega), by (repeat (first | exact Below.refl _ _ | assumption | refine Below_al ?_ _ | refine Below.drew ?_ | refine Below_then ?_ (by assumption) | refine Below.setCell ?_ (by first | omega | (simp; done) | (simp; omega)) _))⟩
  · cases q2 : armsOk a
    · rw [q] at KV
      rw [q2] at KA
      have KV' := Lib.hid KV
      have KA' := Lib.hid KA
      clear KV KA q q2 hs hr
      go_enter Try.func27, Try.ntmps27
      go_wp2_with (first | (go_at_call 37; refine (KV'.out _ (by (repeat (first | exact Below.refl _ _ | assumption | refine Below_al ?_ _ | refine Below.drew ?_ | refine Below_then ?_ (by assumption) | refine Below.setCell ?_ (by first | omega | (simp; done) | (simp; omega)) _)))).mono ?_; rintro e w1 ⟨rfl, hb1⟩; have hA1 := heap_keepB (heap_hit (w.alloc (.cells #[.slice A rows.length c] 29)) (.cells (ac a).toArray 44) (w.heap.size + 1) (by simp)) hb1; have hH1 := heap_keepB (heap_keepA (heap_hit w (.cells #[.slice A rows.length c] 29) _ rfl) (.cells (ac a).toArray 44)) hb1; have hcells := blk_cells hA1) | (go_at_call 53; refine (KA'.out _).mono ?_; rintro e w2 ⟨rfl, hb2⟩) | fail)
      go_ret2
      exact ⟨_, rfl, OwnI.base (OwnI.none0 _ _ _ rfl (Nat.le_refl _)) (by have := hb1.size; have := hb2.size; simp at *; omega), by (repeat (first | exact Below.refl _ _ | assumption | refine Below_al ?_ _ | refine Below.drew ?_ | refine Below_then ?_ (by assumption) | refine Below.setCell ?_ (by first | omega | (simp; done) | (simp; omega)) _))⟩
    · rw [q] at KV
      rw [q2] at KA
      have KV' := Lib.hid KV
      have KA' := Lib.hid KA
      have HQ := Lib.hid q
      have HQ2 := Lib.hid q2
      clear KV KA q q2 hs hr
      go_enter Try.func27, Try.ntmps27
      go_wp2_with (first | (go_at_call 37; refine (KV'.out _ (by (repeat (first | exact Below.refl _ _ | assumption | refine Below_al ?_ _ | refine Below.drew ?_ | refine Below_then ?_ (by assumption) | refine Below.setCell ?_ (by first | omega | (simp; done) | (simp; omega)) _)))).mono ?_; rintro e w1 ⟨rfl, hb1⟩; have hA1 := heap_keepB (heap_hit (w.alloc (.cells #[.slice A rows.length c] 29)) (.cells (ac a).toArray 44) (w.heap.size + 1) (by simp)) hb1; have hH1 := heap_keepB (heap_keepA (heap_hit w (.cells #[.slice A rows.length c] 29) _ rfl) (.cells (ac a).toArray 44)) hb1; have hcells := blk_cells hA1) | (go_at_call 53; refine (KA'.out _).mono ?_; rintro e w2 ⟨rfl, hb2⟩; have hA2 := heap_keepB hA1 hb2; have hH2 := heap_keepB hH1 hb2; have cH2 := cell_of hH2 0) | (refine ldA rfl _ rfl _ _ rfl _ (rangeAt_blk hA2) ?_) | fail)
      have hT : Below w.heap.size w w2 := by (repeat (first | exact Below.refl _ _ | assumption | refine Below_al ?_ _ | refine Below.drew ?_ | refine Below_then ?_ (by assumption) | refine Below.setCell ?_ (by first | omega | (simp; done) | (simp; omega)) _))
      have hsz := hT.size
      refine (l16Conflicts_any A c rows a w2 (HH.out.below hT) hl HQ.out HQ2.out).mono ?_
      rintro e w3 ⟨v, rfl, hO, hb3⟩
      have hT3 := Below_then hT hb3
      clear hb3 hb2 hb1 hcells hA1 hH1 hA2 hH2 cH2
      go_wp2
      go_ret2
      exact ⟨_, rfl, OwnI.base hO hsz, hT3⟩

set_option maxHeartbeats 4000000 in
theorem implConflictsWith_any (A : Option Addr) (c : Nat) (rows : List GrantD) (a : ArmsD) (w : World) (hr : RdR 18 w A (gcs rows)) (hl : rows.length ≤ 1048576) (hs : ∀ g ∈ rows, g.s.size ≤ maxLen) (hcap : rows.length ≤ c) (hcm : c ≤ maxLen) :
    Calls Try.prog 28 #[.agg #[.slice A rows.length c], .agg (ac a).toArray] w (IntsOk w (bif regOk rows && armsOk a then nums rows (fun g => confl g.a a) else []) (regOk rows && armsOk a)) := by
  have KV := fun (w' : World) (hb : Below w.heap.size w w') => IsValidRegister_any A c rows w' (hr.below hb) hl hs hcap hcm
  have KA := fun w' => IsValidArmsC a w'
  have HH := Lib.hid hr
  cases q : regOk rows
  · rw [q] at KV
    have KV' := Lib.hid KV
    clear KV KA q hs hr
    go_enter Try.func28, Try.ntmps28
    go_wp2_with (first | (go_at_call 14; refine (KV'.out _ (by (repeat (first | exact Below.refl _ _ | assumption | refine Below_al ?_ _ | refine Below.drew ?_ | refine Below_then ?_ (by assumption) | refine Below.setCell ?_ (by first | omega | (simp; done) | (simp; omega)) _)))).mono ?_; rintro e w1 ⟨rfl, hb1⟩; have hA1 := heap_keepB (heap_hit (w.alloc (.cells #[.slice A rows.length c] 29)) (.cells (ac a).toArray 44) (w.heap.size + 1) (by simp)) hb1; have hH1 := heap_keepB (heap_keepA (heap_hit w (.cells #[.slice A rows.length c] 29) _ rfl) (.cells (ac a).toArray 44)) hb1; have hcells := blk_cells hA1) | fail)
    go_ret2
    exact ⟨_, rfl, OwnI.nil _ _ _, by (repeat (first | exact Below.refl _ _ | assumption | refine Below_al ?_ _ | refine Below.drew ?_ | refine Below_then ?_ (by assumption) | refine Below.setCell ?_ (by first | omega | (simp; done) | (simp; omega)) _))⟩
  · cases q2 : armsOk a
    · rw [q] at KV
      rw [q2] at KA
      have KV' := Lib.hid KV
      have KA' := Lib.hid KA
      clear KV KA q q2 hs hr
      go_enter Try.func28, Try.ntmps28
      go_wp2_with (first | (go_at_call 14; refine (KV'.out _ (by (repeat (first | exact Below.refl _ _ | assumption | refine Below_al ?_ _ | refine Below.drew ?_ | refine Below_then ?_ (by assumption) | refine Below.setCell ?_ (by first | omega | (simp; done) | (simp; omega)) _)))).mono ?_; rintro e w1 ⟨rfl, hb1⟩; have hA1 := heap_keepB (heap_hit (w.alloc (.cells #[.slice A rows.length c] 29)) (.cells (ac a).toArray 44) (w.heap.size + 1) (by simp)) hb1; have hH1 := heap_keepB (heap_keepA (heap_hit w (.cells #[.slice A rows.length c] 29) _ rfl) (.cells (ac a).toArray 44)) hb1; have hcells := blk_cells hA1) | (go_at_call 41; refine (KA'.out _).mono ?_; rintro e w2 ⟨rfl, hb2⟩) | fail)
      go_ret2
      exact ⟨_, rfl, OwnI.nil _ _ _, by (repeat (first | exact Below.refl _ _ | assumption | refine Below_al ?_ _ | refine Below.drew ?_ | refine Below_then ?_ (by assumption) | refine Below.setCell ?_ (by first | omega | (simp; done) | (simp; omega)) _))⟩
    · rw [q] at KV
      rw [q2] at KA
      have KV' := Lib.hid KV
      have KA' := Lib.hid KA
      have HQ := Lib.hid q
      have HQ2 := Lib.hid q2
      clear KV KA q q2 hs hr
      go_enter Try.func28, Try.ntmps28
      go_wp2_with (first | (go_at_call 14; refine (KV'.out _ (by (repeat (first | exact Below.refl _ _ | assumption | refine Below_al ?_ _ | refine Below.drew ?_ | refine Below_then ?_ (by assumption) | refine Below.setCell ?_ (by first | omega | (simp; done) | (simp; omega)) _)))).mono ?_; rintro e w1 ⟨rfl, hb1⟩; have hA1 := heap_keepB (heap_hit (w.alloc (.cells #[.slice A rows.length c] 29)) (.cells (ac a).toArray 44) (w.heap.size + 1) (by simp)) hb1; have hH1 := heap_keepB (heap_keepA (heap_hit w (.cells #[.slice A rows.length c] 29) _ rfl) (.cells (ac a).toArray 44)) hb1; have hcells := blk_cells hA1) | (go_at_call 41; refine (KA'.out _).mono ?_; rintro e w2 ⟨rfl, hb2⟩; have hA2 := heap_keepB hA1 hb2; have hH2 := heap_keepB hH1 hb2; have cH2 := cell_of hH2 0) | (refine ldA rfl _ rfl _ _ rfl _ (rangeAt_blk hA2) ?_) | fail)
      have hT : Below w.heap.size w w2 := by (repeat (first | exact Below.refl _ _ | assumption | refine Below_al ?_ _ | refine Below.drew ?_ | refine Below_then ?_ (by assumption) | refine Below.setCell ?_ (by first | omega | (simp; done) | (simp; omega)) _))
      have hsz := hT.size
      refine (numbers_any 55 #[.pointer (some ⟨w.heap.size + 1, 0, none⟩)] A c rows (fun g => confl g.a a) w2 (HH.out.below hT) hl cf_cw (fun g w' hg hb => cw_cl g a _ w' (regOk_mem HQ.out hg) HQ2.out (heap_keepB hA2 hb))).mono ?_
      rintro e w3 ⟨v, rfl, hO, hb3⟩
      have hT3 := Below_then hT hb3
      clear hb3 hb2 hb1 hcells hA1 hH1 hA2 hH2 cH2
      go_wp2
      go_ret2
      exact ⟨_, rfl, OwnI.base hO hsz, hT3⟩
end Go.Proofs.Ytgdghkdljfcggaa
