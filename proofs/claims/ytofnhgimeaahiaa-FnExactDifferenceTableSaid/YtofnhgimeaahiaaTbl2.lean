/- Contracts: DifferenceTable: invalid lists; the reference's side. NOT BUILT YET: the region of the inner statement is to be filled in from its goal. -/
import Derived.Test.YtofnhgimeaahiaaTbl
import Derived.Test.YtofnhgimeaahiaaStepI
namespace Go.Proofs.Ytofnhgimeaahiaa
open Go.ChangeShapes Go.WideShapes Go.ChangeAt Go.RowKit
set_option linter.unusedVariables false
set_option linter.unusedSimpArgs false
set_option maxHeartbeats 2000000 in
theorem implDifferenceTable_no (A : Option Addr) (c : Nat) (rows : List ArmsD) (w : World) (h : RdR 15 w A (acs rows)) (hl : rows.length ≤ 1048576) (ho : listOk 16 rows = false) :
    Calls Try.prog 20 #[.slice A rows.length c] w (GridOk w [] false) := by
  have KL := fun (w' : World) (hb : Below w.heap.size w w') => areArms_any A c 16 rows w' (h.below hb) hl (by omega)
  rw [ho] at KL
  have KL' := Lib.hid KL
  clear KL ho h
  go_enter Try.func20, Try.ntmps20
  go_wp2_with fail
  refine (KL'.out _ (by (repeat (first | exact Below.refl _ _ | assumption | refine Below_al ?_ _ | refine Below.drew ?_ | refine Below_then ?_ (by assumption) | refine Below.setCell ?_ (by first | omega | (simp; done) | (simp; omega)) _)))).mono ?_
  rintro e w1 ⟨rfl, hb1⟩
  go_wp2
  go_ret2
  exact ⟨_, [], rfl, GG.nil _ _, hb1⟩
set_option maxHeartbeats 2000000 in
theorem specDifferenceTable_no (A : Option Addr) (c : Nat) (rows : List ArmsD) (w : World) (h : RdR 15 w A (acs rows)) (hl : rows.length ≤ 1048576) (ho : listOk 16 rows = false) :
    Calls Try.prog 18 #[.slice A rows.length c] w (GridOk w [] false) := by
  have KL := fun (w' : World) (hb : Below w.heap.size w w') => l15List_any A c rows w' (h.below hb) hl
  rw [ho] at KL
  have KL' := Lib.hid KL
  clear KL ho h
  go_enter Try.func18, Try.ntmps18
  go_wp2_with fail
  refine (KL'.out _ (by (repeat (first | exact Below.refl _ _ | assumption | refine Below_al ?_ _ | refine Below.drew ?_ | refine Below_then ?_ (by assumption) | refine Below.setCell ?_ (by first | omega | (simp; done) | (simp; omega)) _)))).mono ?_
  rintro e w1 ⟨rfl, hb1⟩
  go_wp2
  go_ret2
  exact ⟨_, [], rfl, (GG.none0 w w.heap.size w.heap.size rfl (Nat.le_refl _)).below hb1, by (repeat (first | exact Below.refl _ _ | assumption | refine Below_al ?_ _ | refine Below.drew ?_ | refine Below_then ?_ (by assumption) | refine Below.setCell ?_ (by first | omega | (simp; done) | (simp; omega)) _))⟩
theorem rangeAt_belowB {w w' : World} {B b o : Nat} {cs : List Value} (h : w.rangeAt b o cs) (hb : Below B w w') (hB : b < B) : w'.rangeAt b o cs := fun j v hv => by
  rw [World.cell?_of_block (a := ⟨b, o + j, none⟩) (hb.block b hB)]
  exact h j v hv
theorem heldO {W w w' : World} {D b o o' : Nat} {u u' : List Value} (hbD : b < D) (h : w.rangeAt b o u ∧ w.rangeAt b o' u' ∧ Below D W w) (hb : Below D w w') : w'.rangeAt b o u ∧ w'.rangeAt b o' u' ∧ Below D W w' :=
  ⟨rangeAt_belowB h.1 hb hbD, rangeAt_belowB h.2.1 hb hbD, h.2.2.trans hb⟩
theorem heldD {W w w' : World} {D b o o' : Nat} {u u' : List Value} (hbD : b < D) (hD : D = W.heap.size) (h : w.rangeAt b o u ∧ w.rangeAt b o' u' ∧ Below D W w) (hb : Below w.heap.size w w') : w'.rangeAt b o u ∧ w'.rangeAt b o' u' ∧ Below D W w' :=
  heldO hbD h (hb.mono (by rw [hD]; have := h.2.2.size; exact this))
set_option maxHeartbeats 4000000 in
theorem specDifferenceTable_yes (A : Option Addr) (c : Nat) (rows : List ArmsD) (w : World) (h : RdR 15 w A (acs rows)) (hl : rows.length ≤ 1048576) (ho : listOk 16 rows = true) :
    Calls Try.prog 18 #[.slice A rows.length c] w (GridOk w (tblD rows rows) true) := by
  have KL := fun (w' : World) (hb : Below w.heap.size w w') => l15List_any A c rows w' (h.below hb) hl
  rw [ho] at KL
  have KL' := Lib.hid KL
  have HO := Lib.hid ho
  have HH := Lib.hid h
  have h16 := listOk_le ho
  clear KL ho h
  go_enter Try.func18, Try.ntmps18
  go_wp2_with fail
  refine (KL'.out _ (by (repeat (first | exact Below.refl _ _ | assumption | refine Below_al ?_ _ | refine Below.drew ?_ | refine Below_then ?_ (by assumption) | refine Below.setCell ?_ (by first | omega | (simp; done) | (simp; omega)) _)))).mono ?_
  rintro e w1 ⟨rfl, hb1⟩
  have hT : Below w.heap.size w w1 := by (repeat (first | exact Below.refl _ _ | assumption | refine Below_al ?_ _ | refine Below.drew ?_ | refine Below_then ?_ (by assumption) | refine Below.setCell ?_ (by first | omega | (simp; done) | (simp; omega)) _))
  have hG : GG w1 w.heap.size (.slice (some ⟨w.heap.size, 0, none⟩) 0 0) [] [] := (GG.none0 w w.heap.size w.heap.size rfl (Nat.le_refl _)).below hb1
  clear hb1
  go_wp2_with fail
  go_loopw [4, 5] (fun o i wr => ∃ (k : Nat) (v : Value) (vs : List Value), k ≤ rows.length ∧ i = .int .i64 k ∧ o = v ∧ GG wr w.heap.size v (tblD rows (rows.take k)) vs ∧ Below w.heap.size w wr) (fun _ i _ => rows.length - (intOf i).toNat)
  case atStart => exact ⟨0, _, [], Nat.zero_le _, rfl, rfl, hG, hT⟩
  case round =>
    clear hG hT
    obtain ⟨k, v, vs, hk, rfl, hov, hG, hb⟩ := hrel
    replace hov := hov.symm
    subst hov
    by_cases hlt : k < rows.length
    · obtain ⟨a, ha⟩ := arms_at hlt
      obtain ⟨b, off, rfl, hr, hbl⟩ := (HH.out.below hb).arms ha
      have i1 : (k : Int) < (rows.length : Int) := by omega
      have d1 : decide (k < rows.length) = true := by simpa using hlt
      have HA := Lib.hid ha
      have ga := listOk_at HO.out ha
      have HGA := Lib.hid ga
      clear ha ga
      go_wp2_with fail
      have hO0 : OwnI (wr.alloc (.cells #[] 3)) wr.heap.size 3 (.slice (some ⟨wr.heap.size, 0, none⟩) 0 0) [] := OwnI.noneT wr _ _ rfl (Nat.le_refl _)
      obtain ⟨W0, hW0⟩ : ∃ W0, W0 = wr := ⟨_, rfl⟩
      obtain ⟨D, hD⟩ : ∃ D, D = wr.heap.size := ⟨_, rfl⟩
      have hL0 : Below D W0 (wr.alloc (.cells #[] 3)) := by rw [hD, hW0]; exact Below_al (Below.refl wr.heap.size wr) _
      have hGB : ∀ w', Below D W0 w' → GG w' w.heap.size v (tblD rows (rows.take k)) vs ∧ Below w.heap.size w w' := fun w' hb' => by rw [hD, hW0] at hb'; exact ⟨hG.below hb', Below_then hb hb'⟩
      have hGV : ∀ b, v.ownBlock = some b → b < D := fun b hb' => by rw [hD]; exact (World.ownsRow.lt hG.out b hb').2
      have hGU : ∀ (i : Nat) (u : Value), vs[i]? = some u → ∀ b, u.ownBlock = some b → b < D := fun i u hu b hb' => by
        rw [hD]
        have hi := (List.getElem?_eq_some_iff.1 hu).1
        exact ((hG.own i u _ hu (List.getElem?_eq_getElem (by rw [← hG.len]; exact hi))).lt b hb').2
      have hrow : ∀ w', Below D W0 w' → RdR 15 w' (some ⟨b, off, none⟩) (acs rows) := fun w' hb' => HH.out.below (hGB w' hb').2
      have hws := hb.size
      rw [← hD] at hO0 hws hbl
      rw [← hD]
      have hDW : D = W0.heap.size := by rw [hD, hW0]
      have HDW := Lib.hid hDW
      have HGB := Lib.hid hGB
      have HGV := Lib.hid hGV
      have HGU := Lib.hid hGU
      have HROW := Lib.hid hrow
      clear hD hW0 hGB hGV hGU hrow hr hDW
      go_loopw [6, 7] (fun o i wi => ∃ (j : Nat) (u : Value), j ≤ rows.length ∧ i = .int .i64 j ∧ o = u ∧ OwnI wi D 3 u (rowD (rows.take j) a) ∧ Below D W0 wi) (fun _ i _ => rows.length - (intOf i).toNat)
      case atStart => exact ⟨0, _, Nat.zero_le _, rfl, rfl, by simpa [rowD] using hO0, hL0⟩
      case round =>
        clear hO0 hL0 hG hb
        obtain ⟨j, u, hj, rfl, hou, hO, hL⟩ := hrel
        replace hou := hou.symm
        subst hou
        by_cases hj2 : j < rows.length
        · obtain ⟨x, hx⟩ := arms_at hj2
          obtain ⟨b2, off2, e2, hr2, -⟩ := (HROW.out _ hL).arms hx
          injection e2 with e2
          injection e2 with e21 e22
          subst e21 e22
          obtain ⟨b3, off3, e3, hrk, -⟩ := (HROW.out _ hL).arms HA.out
          injection e3 with e3
          injection e3 with e31 e32
          subst e31 e32
          have j1 : (j : Int) < (rows.length : Int) := by omega
          have d2 : decide (j < rows.length) = true := by simpa using hj2
          have KD := fun w => l15CountC a x w HGA.out (listOk_at HO.out hx)
          have HX := Lib.hid hx
          obtain ⟨z, hz⟩ : ∃ z, z = df a x := ⟨_, rfl⟩
          rw [← hz] at KD
          have HZ := Lib.hid hz
          have KD' := Lib.hid KD
          have hrl : (rowD (rows.take j) a).length ≤ 1099511627776 := by simp [rowD]; omega
          clear KD hx hz
          go_wp2_with fail

          refine wp_region_noPanic ?_
          refine wp_region_held_drew (S := (fun w' => w'.rangeAt b (off + k * 15) (ac a) ∧ w'.rangeAt b (off + j * 15) (ac x) ∧ Below D W0 w')) (by kernel_rfl) ⟨hrk, hr2, hL.drew⟩ (fun hHeld => ?_)
          refine wpAnyH_take (i := 0) (oi := _) (v := ?_) rfl (by kernel_rfl) (by kernel_rfl) (by kernel_rfl) (fun _ _ _ h => h) (Or.inl ⟨by rfl, ?_⟩) (by assumption) ?_
          rotate_left
          · intro w hSw; clear hSw; first | (go_simp; done) | (go_simp; with_reducible rfl)
          simp only [Act.put, List.getElem_toArray, List.getElem_cons_succ, List.getElem_cons_zero, List.setIfInBounds_toArray, List.set_cons_zero, List.set_cons_succ]
          refine wpAnyH_take (i := 1) (oi := _) (v := ?_) rfl (by kernel_rfl) (by kernel_rfl) (by kernel_rfl) (fun _ _ _ h => h) (Or.inl ⟨by rfl, ?_⟩) (by assumption) ?_
          rotate_left
          · intro w hSw; clear hSw; first | (go_simp; done) | (go_simp; with_reducible rfl)
          simp only [Act.put, List.getElem_toArray, List.getElem_cons_succ, List.getElem_cons_zero, List.setIfInBounds_toArray, List.set_cons_zero, List.set_cons_succ]
          refine wpAnyH_take (i := 2) (oi := _) (v := ?_) rfl (by kernel_rfl) (by kernel_rfl) (by kernel_rfl) (fun _ _ _ h => h) (Or.inl ⟨by rfl, ?_⟩) (by assumption) ?_
          rotate_left
          · intro w hSw; clear hSw; first | (go_simp; done) | (go_simp; with_reducible rfl)
          simp only [Act.put, List.getElem_toArray, List.getElem_cons_succ, List.getElem_cons_zero, List.setIfInBounds_toArray, List.set_cons_zero, List.set_cons_succ]
          refine wpAnyH_take (i := 3) (oi := _) (v := ?_) rfl (by kernel_rfl) (by kernel_rfl) (by kernel_rfl) (fun _ _ _ h => h) (Or.inl ⟨by rfl, ?_⟩) (by assumption) ?_
          rotate_left
          · intro w hSw; clear hSw; first | (go_simp; done) | (go_simp; with_reducible rfl)
          simp only [Act.put, List.getElem_toArray, List.getElem_cons_succ, List.getElem_cons_zero, List.setIfInBounds_toArray, List.set_cons_zero, List.set_cons_succ]
          refine wpAnyH_take (i := 4) (oi := _) (v := _) rfl ?g1_1 ?g2_1 ?g3_1 (fun _ _ _ h => h) (yieldsIf_load_mid ?g4_1 _ _ rfl b ?oo_1 ?g5_1 (ac a) _ ?g6_1 Try.underlying34 rfl (info_ac a)) ?g7_1 ?_
          case g5_1 => rfl
          case g1_1 => kernel_rfl
          case g2_1 => kernel_rfl
          case g3_1 => kernel_rfl
          case g6_1 => exact (fun _ h => h.1)
          case g4_1 => kernel_rfl
          case g7_1 => assumption
          simp only [Act.put, List.getElem_toArray, List.getElem_cons_succ, List.getElem_cons_zero, List.setIfInBounds_toArray, List.set_cons_zero, List.set_cons_succ]
          refine wpAnyH_take (i := 5) (oi := _) (v := ?_) rfl (by kernel_rfl) (by kernel_rfl) (by kernel_rfl) (fun _ _ _ h => h) (Or.inl ⟨by rfl, ?_⟩) (by assumption) ?_
          rotate_left
          · intro w hSw; clear hSw; first | (go_simp; done) | (go_simp; with_reducible rfl)
          simp only [Act.put, List.getElem_toArray, List.getElem_cons_succ, List.getElem_cons_zero, List.setIfInBounds_toArray, List.set_cons_zero, List.set_cons_succ]
          refine wpAnyH_take (i := 6) (oi := _) (v := ?_) rfl (by kernel_rfl) (by kernel_rfl) (by kernel_rfl) (fun _ _ _ h => h) (Or.inl ⟨by rfl, ?_⟩) (by assumption) ?_
          rotate_left
          · intro w hSw; clear hSw; first | (go_simp; done) | (go_simp; with_reducible rfl)
          simp only [Act.put, List.getElem_toArray, List.getElem_cons_succ, List.getElem_cons_zero, List.setIfInBounds_toArray, List.set_cons_zero, List.set_cons_succ]
          refine wpAnyH_take (i := 7) (oi := _) (v := ?_) rfl (by kernel_rfl) (by kernel_rfl) (by kernel_rfl) (fun _ _ _ h => h) (Or.inl ⟨by rfl, ?_⟩) (by assumption) ?_
          rotate_left
          · intro w hSw; clear hSw; first | (go_simp; done) | (go_simp; with_reducible rfl)
          simp only [Act.put, List.getElem_toArray, List.getElem_cons_succ, List.getElem_cons_zero, List.setIfInBounds_toArray, List.set_cons_zero, List.set_cons_succ]
          refine wpAnyH_take (i := 8) (oi := _) (v := _) rfl ?g1_2 ?g2_2 ?g3_2 (fun _ _ _ h => h) (yieldsIf_load_mid ?g4_2 _ _ rfl b ?oo_2 ?g5_2 (ac x) _ ?g6_2 Try.underlying34 rfl (info_ac x)) ?g7_2 ?_
          case g5_2 => rfl
          case g1_2 => kernel_rfl
          case g2_2 => kernel_rfl
          case g3_2 => kernel_rfl
          case g6_2 => exact (fun _ h => h.2.1)
          case g4_2 => kernel_rfl
          case g7_2 => assumption
          simp only [Act.put, List.getElem_toArray, List.getElem_cons_succ, List.getElem_cons_zero, List.setIfInBounds_toArray, List.set_cons_zero, List.set_cons_succ]
          refine wpAnyH_ready (rs := [9]) (by kernel_rfl) (by simp) ?_
          refine AllReadyH.cons (o := _) rfl (fun K hK => ?_) AllReadyH.nil
          go_simp
          refine (KD'.out _).mono ?_
          rintro e x5 ⟨rfl, hb5⟩
          go_wp2_with fail
          refine hK.out _ _ (heldD (by omega) HDW.out hHeld hb5) (fun hHeld => ?_)
          clear hK K
          try simp only [Act.put, List.getElem_toArray, List.getElem_cons_succ, List.getElem_cons_zero, List.setIfInBounds_toArray, List.set_cons_zero, List.set_cons_succ]
          have hO5 := (OwnI.below hO (Below.refl _ _).drew).below hb5
          refine wpAnyH_ready (rs := [10]) (by kernel_rfl) (by simp) ?_
          refine AllReadyH.cons (o := _) rfl (fun K hK => ?_) AllReadyH.nil
          go_simp
          refine hK.out _ _ (heldD (by omega) HDW.out hHeld (Below_al (Below.refl _ _) (.cells #[.int .i64 z] 3 (0, 0)))) (fun hHeld => ?_)
          clear hK K
          try simp only [Act.put, List.getElem_toArray, List.getElem_cons_succ, List.getElem_cons_zero, List.setIfInBounds_toArray, List.set_cons_zero, List.set_cons_succ]
          refine wpAnyH_ready (rs := [11]) (by kernel_rfl) (by simp) ?_
          refine AllReadyH.cons (o := _) rfl (fun K hK => ?_) AllReadyH.nil
          refine step_appI rfl (.tmp 26) (.tmp 36) rfl D _ (rowD (rows.take j) a) (by first | rfl | simp [Act.eval, Act.put]) (hO5.alloc _) _ z (by first | rfl | simp [Act.eval, Act.put]) (cell_of (heap_hit _ _ _ rfl) 0) hrl (by have h0 := HDW.out; have h1 := hL.size; have h2 := hb5.size; simp only [World.size_alloc, World.size_drew] at *; omega) ?_
          intro v9 w9 hO9 hG9 hL9
          refine hK.out _ _ (heldO (by omega) hHeld hL9) (fun hHeld => ?_)
          clear hK K
          try simp only [Act.put, List.getElem_toArray, List.getElem_cons_succ, List.getElem_cons_zero, List.setIfInBounds_toArray, List.set_cons_zero, List.set_cons_succ]
          refine wpAnyH_take (i := 12) (oi := _) (v := ?_) rfl (by kernel_rfl) (by kernel_rfl) (by kernel_rfl) (fun _ _ _ h => h) (Or.inl ⟨by rfl, ?_⟩) (by assumption) ?_
          rotate_left
          · intro w hSw; clear hSw; first | (go_simp; done) | (go_simp; with_reducible rfl)
          simp only [Act.put, List.getElem_toArray, List.getElem_cons_succ, List.getElem_cons_zero, List.setIfInBounds_toArray, List.set_cons_zero, List.set_cons_succ]
          have hT9 := hHeld.2.2
          refine wpAnyH_done (by kernel_rfl) ?_ _
          refine NoPanic.normal ?_
          go_wp2
          go_roundw
          case rel => exact ⟨j + 1, _, by omega, by go_num, rfl, by rw [rowD_snoc HX.out, ← HZ.out]; exact hO9, hT9⟩
          case measure => simp [intOf]; omega
        · obtain rfl : j = rows.length := by omega
          have d2 : decide (rows.length < rows.length) = false := by simp
          rw [List.take_length] at hO
          obtain ⟨hG6, hT6⟩ := HGB.out _ hL
          have hs6 := hT6.size
          have q1 : ∀ (i : Nat) (u' : Value), vs[i]? = some u' → u'.ownBlock = none ∨ u'.ownBlock ≠ u.ownBlock := fun i u' hu' => by
            cases e : u'.ownBlock with
            | none => exact .inl rfl
            | some b =>
              refine .inr fun e2 => ?_
              have := HGU.out i u' hu' b e
              have := (hO.lt b e2.symm).1
              omega
          have q2 : u.ownBlock = none ∨ u.ownBlock ≠ v.ownBlock := by
            cases e : u.ownBlock with
            | none => exact .inl rfl
            | some b =>
              refine .inr fun e2 => ?_
              have := HGV.out b e2.symm
              have := (hO.lt b e).1
              omega
          have q3 : (tblD rows (rows.take k)).length ≤ 1048576 := by simp [tblD]; omega
          obtain ⟨A', c', rfl, -⟩ := hO.form
          have Q1 := Lib.hid q1
          have Q2 := Lib.hid q2
          clear q1 q2 hL
          go_wp2_with (first | (at_builtin; refine wp_appG rfl _ _ rfl w.heap.size v (tblD rows (rows.take k)) vs rfl (hG6.below (Below_al (Below.refl _ _) _)) _ _ (rowD rows a) rfl (cell_of (heap_hit _ _ _ rfl) 0) (OwnI.base (hO.alloc _) ?c0) Q1.out Q2.out q3 ?c4 ?_; rotate_left 2; intro v' w9 hG9 hR9 hL9) | fail)
          try (case c0 => omega)
          try (case c4 => (simp; omega))
          have hT9 := (Below_al hT6 _).trans hL9
          clear hR9 hL9 hG6 hO
          go_wp2
          go_roundw
          case rel => exact ⟨k + 1, _, _, by omega, by go_num, rfl, by rw [tblD_snoc HA.out]; exact hG9, hT9⟩
          case measure => simp [intOf]; omega
    · obtain rfl : k = rows.length := by omega
      have d1 : decide (rows.length < rows.length) = false := by simp
      rw [List.take_length] at hG
      go_wp2
      go_ret2
      exact ⟨_, vs, rfl, hG, hb⟩
theorem specDifferenceTable_any (A : Option Addr) (c : Nat) (rows : List ArmsD) (w : World) (h : RdR 15 w A (acs rows)) (hl : rows.length ≤ 1048576) : Calls Try.prog 18 #[.slice A rows.length c] w (GridOk w (bif listOk 16 rows then tblD rows rows else []) (listOk 16 rows)) := by
  cases ho : listOk 16 rows
  · exact specDifferenceTable_no A c rows w h hl ho
  · exact specDifferenceTable_yes A c rows w h hl ho
theorem implDifferenceTable_any (A : Option Addr) (c : Nat) (rows : List ArmsD) (w : World) (h : RdR 15 w A (acs rows)) (hl : rows.length ≤ 1048576) : Calls Try.prog 20 #[.slice A rows.length c] w (GridOk w (bif listOk 16 rows then tblD rows rows else []) (listOk 16 rows)) := by
  cases ho : listOk 16 rows
  · exact implDifferenceTable_no A c rows w h hl ho
  · exact implDifferenceTable_yes A c rows w h hl ho
theorem tblOk_small (rows : List ArmsD) : Small (bif listOk 16 rows then tblD rows rows else []) := by
  cases ho : listOk 16 rows
  · exact ⟨by simp, fun r hr => by simp at hr⟩
  · have h16 := listOk_le ho
    refine ⟨by simp [tblD]; omega, fun r hr => ?_⟩
    simp [tblD, rowD] at hr
    obtain ⟨a, -, rfl⟩ := hr
    simp
    omega
end Go.Proofs.Ytofnhgimeaahiaa
