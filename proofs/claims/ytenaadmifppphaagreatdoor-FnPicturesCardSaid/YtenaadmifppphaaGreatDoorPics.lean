/- Contracts: which grids are pictures, both sides. -/
import Derived.Test.YtenaadmifppphaaGreatDoorGrids
import Derived.Test.YtenaadmifppphaaGreatDoorPic
import Derived.Test.YtenaadmifppphaaGreatDoorFields
import Derived.Test.YtenaadmifppphaaGreatDoorMem3
namespace Go.Proofs.YtenaadmifppphaaGreatDoor
open Go.ChangeShapes Go.WideShapes Go.ChangeAt Go.RowKit
set_option linter.unusedVariables false
theorem Below_drewN' {B : Nat} {a w : World} (h : Below B a w) (n : Nat) : Below B a (w.drewN n) := ⟨h.os, h.tape, h.output, h.size, h.block⟩
set_option maxHeartbeats 2000000 in
theorem IsValidPicture_any (A : Option Addr) (c : Nat) (rows : List (List Int)) (w : World) (h : RdG w A rows) (hs : Small rows) :
    Calls Tryz.prog 10 #[.slice A rows.length c] w fun e w' => e = .returned (.bool (picOk rows)) ∧ Below w.heap.size w w' := by
  have hl0 := hs.len
  by_cases hl : rows.length = 24
  · have hd0 : ((24 : Int) != 24) = false := rfl
    have HL := Lib.hid hl
    rw [hl]
    clear hl hl0
    go_enter Tryz.func10, Tryz.ntmps10
    go_wp2_with fail
    clear hd0
    go_loopw [12] (fun i wr => ∃ k : Nat, k ≤ 24 ∧ i = .int .i64 k ∧ (∀ (y : Nat) (row : List Int), y < k → rows[y]? = some row → rowG y row = true) ∧ Below w.heap.size w wr) (fun i _ => 24 - (intOf i).toNat)
    case atStart => exact ⟨0, by omega, rfl, fun y row hy => absurd hy (by omega), by (repeat (first | exact Below.refl _ _ | assumption | refine Below_al ?_ _ | refine Below.drew ?_ | refine Below_then ?_ (by assumption) | refine Below.setCell ?_ (by first | omega | (simp; done) | (simp; omega)) _))⟩
    case round =>
      obtain ⟨k, hk, rfl, hall, hb⟩ := hrel
      have HA := Lib.hid hall
      clear hall
      by_cases hlt : k < 24
      · have hd : decide ((k : Int) < 24) = true := by simp; omega
        have i1 : (k : Int) < 24 := by omega
        obtain ⟨row, hrow⟩ := row_at (rows := rows) (k := k) (by have := HL.out; omega)
        obtain ⟨b, off, A', c', rfl, hc1, hr, -⟩ := (h.below hb).atv hrow
        have hrl := hs.row hrow
        have HROW := Lib.hid hrow
        clear hrow
        by_cases hw : row.length = 20
        · rw [hw] at hc1
          have HWL := Lib.hid hw
          have hd1 : ((20 : Int) != 20) = false := rfl
          clear hw hrl
          go_wp2_with fail
          clear hd hd1 hc1
          have HRR := Lib.hid hr
          clear hr
          obtain ⟨wr0, hwr0⟩ : ∃ x, x = wr := ⟨_, rfl⟩
          rw [← hwr0] at HRR 
          go_loopw [22] (fun i wr => ∃ j : Nat, j ≤ 20 ∧ i = .int .i64 j ∧ (∀ (x : Nat) (v : Int), x < j → row[x]? = some v → cellG x k v = true) ∧ Below wr0.heap.size wr0 wr) (fun i _ => 20 - (intOf i).toNat)
          case atStart => exact ⟨0, by omega, rfl, fun x v hx => absurd hx (by omega), by rw [hwr0]; exact Below.refl _ _⟩
          case round =>
            subst hwr0
            obtain ⟨j, hj, rfl, hall2, hb2⟩ := hrel
            have HA2 := Lib.hid hall2
            clear hall2
            by_cases hlt2 : j < 20
            · have hd2 : decide ((j : Int) < 20) = true := by simp; omega
              have i2 : (j : Int) < 20 := by omega
              obtain ⟨v, hv⟩ : ∃ v, row[j]? = some v := ⟨row[j]'(by have := HWL.out; omega), List.getElem?_eq_getElem _⟩
              obtain ⟨b2, off2, rfl, hc2, -⟩ := (HRR.out.below hb2).atv hv
              have HV := Lib.hid hv
              clear hv 
              obtain ⟨z, hz⟩ : ∃ z, z = inSh j k := ⟨_, rfl⟩
              obtain ⟨t, ht⟩ : ∃ t, t = decide (1 ≤ v ∧ v ≤ 9) := ⟨_, rfl⟩
              have K : ∀ w, Calls Tryz.prog 24 #[.int .i64 j, .int .i64 k] w fun e w' => e = .returned (.bool z) ∧ w = w' := fun w => by rw [hz]; exact InShield_any j k w
              have L : ∀ w, Calls Tryz.prog 25 #[.int .i64 v] w fun e w' => e = .returned (.bool t) ∧ w = w' := fun w => by rw [ht]; exact IsTincture_any v w
              have hcell : cellG j k v = (bif z then t else decide (v = 0)) := by rw [hz, ht]; rfl
              have HC := Lib.hid hcell
              have K' := Lib.hid K
              have L' := Lib.hid L
              have HT := Lib.hid ht
              clear K L hcell hz ht
              cases z <;> cases t
              · by_cases h0 : v = 0
                · have n0 : (v != 0) = false := by simpa using h0
                  have H0 := Lib.hid h0
                  clear h0
                  go_wp2_with (first | (go_at_call 24; refine (K'.out _).mono ?_; rintro e w' ⟨rfl, rfl⟩) | (go_at_call 25; refine (L'.out _).mono ?_; rintro e w' ⟨rfl, rfl⟩) | fail)
                  go_roundw
                  case rel =>
                    refine ⟨j + 1, by omega, by go_num, fun x u hx hu => ?_, hb2⟩
                    by_cases e : x = j
                    · subst e
                      rw [HV.out] at hu
                      injection hu with hu
                      subst hu
                      rw [HC.out]
                      simp [H0.out]
                    · exact HA2.out x u (by omega) hu
                  case measure => simp [intOf]; omega
                · have n0 : (v != 0) = true := by simpa using h0
                  go_wp2_with (first | (go_at_call 24; refine (K'.out _).mono ?_; rintro e w' ⟨rfl, rfl⟩) | (go_at_call 25; refine (L'.out _).mono ?_; rintro e w' ⟨rfl, rfl⟩) | fail)
                  go_ret
                  refine ⟨retB (picOk_no hlt HROW.out (rowG_no hlt2 HV.out ?_)).symm, (Below_then hb hb2)⟩
                  rw [HC.out]
                  simp [h0]
              · go_wp2_with (first | (go_at_call 24; refine (K'.out _).mono ?_; rintro e w' ⟨rfl, rfl⟩) | (go_at_call 25; refine (L'.out _).mono ?_; rintro e w' ⟨rfl, rfl⟩) | fail)
                go_ret
                refine ⟨retB (picOk_no hlt HROW.out (rowG_no hlt2 HV.out ?_)).symm, (Below_then hb hb2)⟩
                rw [HC.out]
                have := of_decide_eq_true HT.out.symm
                simp
                omega
              · go_wp2_with (first | (go_at_call 24; refine (K'.out _).mono ?_; rintro e w' ⟨rfl, rfl⟩) | (go_at_call 25; refine (L'.out _).mono ?_; rintro e w' ⟨rfl, rfl⟩) | fail)
                go_ret
                refine ⟨retB (picOk_no hlt HROW.out (rowG_no hlt2 HV.out ?_)).symm, (Below_then hb hb2)⟩
                rw [HC.out]
                rfl
              · go_wp2_with (first | (go_at_call 24; refine (K'.out _).mono ?_; rintro e w' ⟨rfl, rfl⟩) | (go_at_call 25; refine (L'.out _).mono ?_; rintro e w' ⟨rfl, rfl⟩) | fail)
                go_roundw
                case rel =>
                  refine ⟨j + 1, by omega, by go_num, fun x u hx hu => ?_, hb2⟩
                  by_cases e : x = j
                  · subst e
                    rw [HV.out] at hu
                    injection hu with hu
                    subst hu
                    rw [HC.out]
                    rfl
                  · exact HA2.out x u (by omega) hu
                case measure => simp [intOf]; omega
            · obtain rfl : j = 20 := by omega
              go_wp2
              go_roundw
              case rel =>
                refine ⟨k + 1, by omega, by go_num, fun y r hy hr => ?_, Below_then hb hb2⟩
                by_cases e : y = k
                · subst e
                  rw [HROW.out] at hr
                  injection hr with hr
                  subst hr
                  exact rowG_yes HWL.out fun x v _ hv => HA2.out x v (by have h1 := (List.getElem?_eq_some_iff.1 hv).1; have := HWL.out; omega) hv
                · exact HA.out y r (by omega) hr
              case measure => simp [intOf]; omega
        · have hn : ((row.length : Int) != 20) = true := by simp; omega
          have HW := Lib.hid hw
          clear hw
          go_wp2
          go_ret
          exact ⟨retB (picOk_no hlt HROW.out (rowG_len HW.out)).symm, hb⟩
      · obtain rfl : k = 24 := by omega
        go_wp2
        go_ret
        exact ⟨retB (picOk_yes HL.out fun y row hy hr => HA.out y row hy hr).symm, hb⟩
  · have hn : ((rows.length : Int) != 24) = true := by simp; omega
    rw [picOk_len hl]
    clear hl
    go_enter Tryz.func10, Tryz.ntmps10
    go_wp2
    go_ret
    exact ⟨rfl, by (repeat (first | exact Below.refl _ _ | assumption | refine Below_al ?_ _ | refine Below.drew ?_ | refine Below_then ?_ (by assumption) | refine Below.setCell ?_ (by first | omega | (simp; done) | (simp; omega)) _))⟩
set_option maxHeartbeats 2000000 in
theorem l13Good_any (A : Option Addr) (c : Nat) (rows : List (List Int)) (w : World) (h : RdG w A rows) (hs : Small rows) :
    Calls Tryz.prog 21 #[.slice A rows.length c] w fun e w' => e = .returned (.bool (picOk rows)) ∧ Below w.heap.size w w' := by
  have hl0 := hs.len
  by_cases hl : rows.length = 24
  · have hd0 : ((24 : Int) != 24) = false := rfl
    have HL := Lib.hid hl
    rw [hl]
    clear hl hl0
    go_enter Tryz.func21, Tryz.ntmps21
    go_wp2_with fail
    clear hd0
    go_loopw [3] (fun i wr => ∃ k : Nat, k ≤ 24 ∧ i = .int .i64 k ∧ (∀ (y : Nat) (row : List Int), y < k → rows[y]? = some row → rowG y row = true) ∧ Below w.heap.size w wr) (fun i _ => 24 - (intOf i).toNat)
    case atStart => exact ⟨0, by omega, rfl, fun y row hy => absurd hy (by omega), by (repeat (first | exact Below.refl _ _ | assumption | refine Below_al ?_ _ | refine Below.drew ?_ | refine Below_then ?_ (by assumption) | refine Below.setCell ?_ (by first | omega | (simp; done) | (simp; omega)) _))⟩
    case round =>
      obtain ⟨k, hk, rfl, hall, hb⟩ := hrel
      have HA := Lib.hid hall
      clear hall
      by_cases hlt : k < 24
      · have hd : decide ((k : Int) < 24) = true := by simp; omega
        have i1 : (k : Int) < 24 := by omega
        obtain ⟨row, hrow⟩ := row_at (rows := rows) (k := k) (by have := HL.out; omega)
        obtain ⟨b, off, A', c', rfl, hc1, hr, -⟩ := (h.below hb).atv hrow
        have hrl := hs.row hrow
        have HROW := Lib.hid hrow
        clear hrow
        by_cases hw : row.length = 20
        · rw [hw] at hc1
          have HWL := Lib.hid hw
          have hd1 : ((20 : Int) != 20) = false := rfl
          clear hw hrl
          go_wp2_with fail
          clear hd hd1 
          have HRR := Lib.hid hr
          clear hr
          obtain ⟨wr0, hwr0⟩ : ∃ x, x = wr := ⟨_, rfl⟩
          rw [← hwr0] at HRR hc1
          go_loopw [4] (fun i wr => ∃ j : Nat, j ≤ 20 ∧ i = .int .i64 j ∧ (∀ (x : Nat) (v : Int), x < j → row[x]? = some v → cellG x k v = true) ∧ Below wr0.heap.size wr0 wr) (fun i _ => 20 - (intOf i).toNat)
          case atStart => exact ⟨0, by omega, rfl, fun x v hx => absurd hx (by omega), by rw [hwr0]; exact Below.refl _ _⟩
          case round =>
            subst hwr0
            obtain ⟨j, hj, rfl, hall2, hb2⟩ := hrel
            have HA2 := Lib.hid hall2
            clear hall2
            by_cases hlt2 : j < 20
            · have hd2 : decide ((j : Int) < 20) = true := by simp; omega
              have i2 : (j : Int) < 20 := by omega
              obtain ⟨v, hv⟩ : ∃ v, row[j]? = some v := ⟨row[j]'(by have := HWL.out; omega), List.getElem?_eq_getElem _⟩
              obtain ⟨b2, off2, rfl, hc2, -⟩ := (HRR.out.below hb2).atv hv
              have hc0 := keep_cell hc1 hb2
              have HV := Lib.hid hv
              clear hv hc1
              obtain ⟨z, hz⟩ : ∃ z, z = inSh j k := ⟨_, rfl⟩
              obtain ⟨t, ht⟩ : ∃ t, t = decide (1 ≤ v ∧ v ≤ 9) := ⟨_, rfl⟩
              have K : ∀ w, Calls Tryz.prog 39 #[.int .i64 j, .int .i64 k] w fun e w' => e = .returned (.bool z) ∧ w' = w := fun w => by rw [hz]; exact (l9In_any j k w).mono fun _ _ ⟨h1, h2⟩ => ⟨h1, h2.symm⟩
              have L : ∀ w, Calls Tryz.prog 40 #[.int .i64 v] w fun e w' => e = .returned (.bool t) ∧ w' = w := fun w => by rw [ht]; exact (l2Good_any v w).mono fun _ _ ⟨h1, h2⟩ => ⟨h1, h2.symm⟩
              have hcell : cellG j k v = (bif z then t else decide (v = 0)) := by rw [hz, ht]; rfl
              have HC := Lib.hid hcell
              have K' := Lib.hid K
              have L' := Lib.hid L
              have HT := Lib.hid ht
              clear K L hcell hz ht
              cases z <;> cases t
              · by_cases h0 : v = 0
                · have n0 : (v != 0) = false := by simpa using h0
                  have H0 := Lib.hid h0
                  clear h0
                  go_wp2_with fail
                  go_quiet ((first | (go_at_call 39; exact Calls.quiet_of_same (K'.out _)) | (go_at_call 40; exact Calls.quiet_of_same (L'.out _))))
                  go_wp2
                  go_roundw
                  case rel =>
                    refine ⟨j + 1, by omega, by go_num, fun x u hx hu => ?_, Below_drewN' hb2 _⟩
                    by_cases e : x = j
                    · subst e
                      rw [HV.out] at hu
                      injection hu with hu
                      subst hu
                      rw [HC.out]
                      simp [H0.out]
                    · exact HA2.out x u (by omega) hu
                  case measure => simp [intOf]; omega
                · have n0 : (v != 0) = true := by simpa using h0
                  go_wp2_with fail
                  go_quiet ((first | (go_at_call 39; exact Calls.quiet_of_same (K'.out _)) | (go_at_call 40; exact Calls.quiet_of_same (L'.out _))))
                  go_wp2
                  go_ret
                  refine ⟨retB (picOk_no hlt HROW.out (rowG_no hlt2 HV.out ?_)).symm, Below_drewN' (Below_then hb hb2) _⟩
                  rw [HC.out]
                  simp [h0]
              · go_wp2_with fail
                go_quiet ((first | (go_at_call 39; exact Calls.quiet_of_same (K'.out _)) | (go_at_call 40; exact Calls.quiet_of_same (L'.out _))))
                go_wp2
                go_ret
                refine ⟨retB (picOk_no hlt HROW.out (rowG_no hlt2 HV.out ?_)).symm, Below_drewN' (Below_then hb hb2) _⟩
                rw [HC.out]
                have := of_decide_eq_true HT.out.symm
                simp
                omega
              · go_wp2_with fail
                go_quiet ((first | (go_at_call 39; exact Calls.quiet_of_same (K'.out _)) | (go_at_call 40; exact Calls.quiet_of_same (L'.out _))))
                go_wp2
                go_ret
                refine ⟨retB (picOk_no hlt HROW.out (rowG_no hlt2 HV.out ?_)).symm, Below_drewN' (Below_then hb hb2) _⟩
                rw [HC.out]
                rfl
              · go_wp2_with fail
                go_quiet ((first | (go_at_call 39; exact Calls.quiet_of_same (K'.out _)) | (go_at_call 40; exact Calls.quiet_of_same (L'.out _))))
                go_wp2
                go_roundw
                case rel =>
                  refine ⟨j + 1, by omega, by go_num, fun x u hx hu => ?_, Below_drewN' hb2 _⟩
                  by_cases e : x = j
                  · subst e
                    rw [HV.out] at hu
                    injection hu with hu
                    subst hu
                    rw [HC.out]
                    rfl
                  · exact HA2.out x u (by omega) hu
                case measure => simp [intOf]; omega
            · obtain rfl : j = 20 := by omega
              go_wp2
              go_roundw
              case rel =>
                refine ⟨k + 1, by omega, by go_num, fun y r hy hr => ?_, Below_then hb hb2⟩
                by_cases e : y = k
                · subst e
                  rw [HROW.out] at hr
                  injection hr with hr
                  subst hr
                  exact rowG_yes HWL.out fun x v _ hv => HA2.out x v (by have h1 := (List.getElem?_eq_some_iff.1 hv).1; have := HWL.out; omega) hv
                · exact HA.out y r (by omega) hr
              case measure => simp [intOf]; omega
        · have hn : ((row.length : Int) != 20) = true := by simp; omega
          have HW := Lib.hid hw
          clear hw
          go_wp2
          go_ret
          exact ⟨retB (picOk_no hlt HROW.out (rowG_len HW.out)).symm, hb⟩
      · obtain rfl : k = 24 := by omega
        go_wp2
        go_ret
        exact ⟨retB (picOk_yes HL.out fun y row hy hr => HA.out y row hy hr).symm, hb⟩
  · have hn : ((rows.length : Int) != 24) = true := by simp; omega
    rw [picOk_len hl]
    clear hl
    go_enter Tryz.func21, Tryz.ntmps21
    go_wp2
    go_ret
    exact ⟨rfl, by (repeat (first | exact Below.refl _ _ | assumption | refine Below_al ?_ _ | refine Below.drew ?_ | refine Below_then ?_ (by assumption) | refine Below.setCell ?_ (by first | omega | (simp; done) | (simp; omega)) _))⟩
end Go.Proofs.YtenaadmifppphaaGreatDoor
