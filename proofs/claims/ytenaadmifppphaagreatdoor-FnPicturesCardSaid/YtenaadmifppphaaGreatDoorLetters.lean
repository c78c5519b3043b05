/- Contracts: letters of a picture, both sides. -/
import Derived.Test.YtenaadmifppphaaGreatDoorPics
import Derived.Test.YtenaadmifppphaaGreatDoorBytes
import Derived.Test.YtenaadmifppphaaGreatDoorText
namespace Go.Proofs.YtenaadmifppphaaGreatDoor
open Go.ChangeShapes Go.WideShapes Go.ChangeAt Go.RowKit
set_option linter.unusedVariables false
def letL : List UInt8 := [46, 103, 115, 114, 98, 107, 110, 112, 101, 118]
def letU (v : Int) : UInt8 := letL.getD v.toNat 0
def letC (_y _x : Nat) (v : Int) : UInt8 := letU v
theorem letIdx (v : Int) (h0 : 0 ≤ v) (h9 : v ≤ 9) (w : World) : (Instr.index 9 (.string ⟨#[46, 103, 115, 114, 98, 107, 110, 112, 101, 118]⟩) (.int .i64 v)).run Tryz.prog w = .ok (.int .u8 ((letU v).toNat : Int)) w := by
  obtain rfl | rfl | rfl | rfl | rfl | rfl | rfl | rfl | rfl | rfl : v = 0 ∨ v = 1 ∨ v = 2 ∨ v = 3 ∨ v = 4 ∨ v = 5 ∨ v = 6 ∨ v = 7 ∨ v = 8 ∨ v = 9 := by omega
  all_goals kernel_rfl
set_option maxHeartbeats 2000000 in
theorem lettersOf_nl (A : Option Addr) (c : Nat) (rows : List (List Int)) (w : World) (h : RdG w A rows) (hok : picOk rows = true) :
    Calls Tryz.prog 19 #[.slice A 24 c, .string ⟨#[10]⟩] w fun e w' => e = .returned (.string ⟨(textT letC [10] rows 24).toArray⟩) ∧ Below w.heap.size w w' := by
  have HL := Lib.hid (picOk_24 hok)
  have HOK := Lib.hid hok
  clear hok
  go_enter Tryz.func19, Tryz.ntmps19
  go_wp2_with fail
  go_loopw [5, 13] (fun s i wr => ∃ k : Nat, k ≤ 24 ∧ i = .int .i64 k ∧ OwnB wr w.heap.size s (textT letC [10] rows k) ∧ Below w.heap.size w wr) (fun _ i _ => 24 - (intOf i).toNat)
  case atStart => exact ⟨0, by omega, rfl, OwnB.empty _ _ (Nat.le_refl _), by (repeat (first | exact Below.refl _ _ | assumption | refine Below_al ?_ _ | refine Below.drew ?_ | refine Below_then ?_ (by assumption) | refine Below.setCell ?_ (by first | omega | (simp; done) | (simp; omega)) _))⟩
  case round =>
    obtain ⟨k, hk, rfl, hown, hb⟩ := hrel
    by_cases hlt : k < 24
    · have hd : decide ((k : Int) < 24) = true := by simp; omega
      have i1 : (k : Int) < 24 := by omega
      have hsz := hb.size
      obtain ⟨row, hrow⟩ := row_at (rows := rows) (k := k) (by have := HL.out; omega)
      obtain ⟨b, off, A', c', rfl, hc0, hr, -⟩ := h.atv hrow
      have hrg := picOk_row HOK.out hrow
      have hr20 := rowG_20 hrg
      rw [hr20] at hc0
      have hc1 := keep_cell hc0 hb
      have HC0 := Lib.hid hc0
      have HR := Lib.hid hr
      have HR20 := Lib.hid hr20
      have HRG := Lib.hid hrg
      have HROW := Lib.hid hrow
      have TL := Lib.hid (textT_len letC [10] rows k)
      have TS := Lib.hid (textT_snoc (f := letC) (tl := [10]) hrow)
      clear hrow hrg hr20 hr hc0
      go_wp2_with fail
      clear hd hc1
      go_loopw [5, 19] (fun s i wr => ∃ j : Nat, j ≤ 20 ∧ i = .int .i64 j ∧ OwnB wr w.heap.size s (textT letC [10] rows k ++ rowT letC k row j) ∧ Below w.heap.size w wr) (fun _ i _ => 20 - (intOf i).toNat)
      case atStart => exact ⟨0, by omega, rfl, by simpa [rowT] using hown, hb⟩
      case round =>
        clear hown hb hsz
        obtain ⟨j, hj, rfl, hown, hb⟩ := hrel
        have hsz := hb.size
        have hll : (textT letC [10] rows k ++ rowT letC k row j).length ≤ 100000 := by
          rw [List.length_append, TL.out, rowT_len]
          simp
          omega
        have HLL := Lib.hid hll
        have HOWN := Lib.hid hown
        clear hll hown
        by_cases hlt2 : j < 20
        · have hd2 : decide ((j : Int) < 20) = true := by simp; omega
          have i2 : (j : Int) < 20 := by omega
          have hc1 := keep_cell HC0.out hb
          obtain ⟨v, hv⟩ : ∃ v, row[j]? = some v := ⟨row[j]'(by have := HR20.out; omega), List.getElem?_eq_getElem _⟩
          obtain ⟨v0, v9⟩ := cellG_bd (rowG_cell HRG.out hv)
          obtain ⟨b2, off2, rfl, hc2, -⟩ := (HR.out.below hb).atv hv
          have HST := Lib.hid (textT_step (f := letC) (tl := [10]) (rows := rows) (k := k) hv)
          clear hv
          have hix := letIdx v v0 v9
          have hcc : letC k j v = letU v := rfl
          generalize letU v = cc at *
          rw [hcc] at HST
          clear hcc
          go_wp2_with (first | (at_builtin; refine wp_appB cc rfl _ _ rfl w.heap.size _ _ rfl (HOWN.out.alloc _) _ _ rfl (cell_of (heap_hit _ _ _ rfl) 0) rfl (by have := HLL.out; omega) (by simp; omega) ?_; intro v' w3 hown3 hgr3 hbel3) | fail)
          go_roundw
          case rel =>
            refine ⟨j + 1, by omega, by go_num, ?_, (Below_al hb _).trans hbel3⟩
            rw [← HST.out]
            exact hown3
          case measure => simp [intOf]; omega
        · obtain rfl : j = 20 := by omega
          go_wp2_with (first | (at_builtin; refine wp_appS rfl _ _ rfl w.heap.size _ _ rfl HOWN.out ⟨#[10]⟩ rfl (by have := HLL.out; omega) (by decide) hsz ?_; intro v' w3 hown3 hgr3 hbel3) | fail)
          go_roundw
          case rel =>
            refine ⟨k + 1, by omega, by go_num, ?_, hb.trans hbel3⟩
            rw [TS.out, ← List.append_assoc]
            exact hown3
          case measure => simp [intOf]; omega
    · obtain rfl : k = 24 := by omega
      have hsz := hb.size
      have HOWN := Lib.hid hown
      have hcv := hown.conv
      clear hown
      go_wp2
      go_ret
      exact ⟨rfl, hb⟩
set_option maxHeartbeats 2000000 in
theorem lettersOf_no (A : Option Addr) (c : Nat) (rows : List (List Int)) (w : World) (h : RdG w A rows) (hok : picOk rows = true) :
    Calls Tryz.prog 19 #[.slice A 24 c, .string ⟨#[]⟩] w fun e w' => e = .returned (.string ⟨(textT letC [] rows 24).toArray⟩) ∧ Below w.heap.size w w' := by
  have HL := Lib.hid (picOk_24 hok)
  have HOK := Lib.hid hok
  clear hok
  go_enter Tryz.func19, Tryz.ntmps19
  go_wp2_with fail
  go_loopw [5, 13] (fun s i wr => ∃ k : Nat, k ≤ 24 ∧ i = .int .i64 k ∧ OwnB wr w.heap.size s (textT letC [] rows k) ∧ Below w.heap.size w wr) (fun _ i _ => 24 - (intOf i).toNat)
  case atStart => exact ⟨0, by omega, rfl, OwnB.empty _ _ (Nat.le_refl _), by (repeat (first | exact Below.refl _ _ | assumption | refine Below_al ?_ _ | refine Below.drew ?_ | refine Below_then ?_ (by assumption) | refine Below.setCell ?_ (by first | omega | (simp; done) | (simp; omega)) _))⟩
  case round =>
    obtain ⟨k, hk, rfl, hown, hb⟩ := hrel
    by_cases hlt : k < 24
    · have hd : decide ((k : Int) < 24) = true := by simp; omega
      have i1 : (k : Int) < 24 := by omega
      have hsz := hb.size
      obtain ⟨row, hrow⟩ := row_at (rows := rows) (k := k) (by have := HL.out; omega)
      obtain ⟨b, off, A', c', rfl, hc0, hr, -⟩ := h.atv hrow
      have hrg := picOk_row HOK.out hrow
      have hr20 := rowG_20 hrg
      rw [hr20] at hc0
      have hc1 := keep_cell hc0 hb
      have HC0 := Lib.hid hc0
      have HR := Lib.hid hr
      have HR20 := Lib.hid hr20
      have HRG := Lib.hid hrg
      have HROW := Lib.hid hrow
      have TL := Lib.hid (textT_len letC [] rows k)
      have TS := Lib.hid (textT_snoc (f := letC) (tl := []) hrow)
      clear hrow hrg hr20 hr hc0
      go_wp2_with fail
      clear hd hc1
      go_loopw [5, 19] (fun s i wr => ∃ j : Nat, j ≤ 20 ∧ i = .int .i64 j ∧ OwnB wr w.heap.size s (textT letC [] rows k ++ rowT letC k row j) ∧ Below w.heap.size w wr) (fun _ i _ => 20 - (intOf i).toNat)
      case atStart => exact ⟨0, by omega, rfl, by simpa [rowT] using hown, hb⟩
      case round =>
        clear hown hb hsz
        obtain ⟨j, hj, rfl, hown, hb⟩ := hrel
        have hsz := hb.size
        have hll : (textT letC [] rows k ++ rowT letC k row j).length ≤ 100000 := by
          rw [List.length_append, TL.out, rowT_len]
          simp
          omega
        have HLL := Lib.hid hll
        have HOWN := Lib.hid hown
        clear hll hown
        by_cases hlt2 : j < 20
        · have hd2 : decide ((j : Int) < 20) = true := by simp; omega
          have i2 : (j : Int) < 20 := by omega
          have hc1 := keep_cell HC0.out hb
          obtain ⟨v, hv⟩ : ∃ v, row[j]? = some v := ⟨row[j]'(by have := HR20.out; omega), List.getElem?_eq_getElem _⟩
          obtain ⟨v0, v9⟩ := cellG_bd (rowG_cell HRG.out hv)
          obtain ⟨b2, off2, rfl, hc2, -⟩ := (HR.out.below hb).atv hv
          have HST := Lib.hid (textT_step (f := letC) (tl := []) (rows := rows) (k := k) hv)
          clear hv
          have hix := letIdx v v0 v9
          have hcc : letC k j v = letU v := rfl
          generalize letU v = cc at *
          rw [hcc] at HST
          clear hcc
          go_wp2_with (first | (at_builtin; refine wp_appB cc rfl _ _ rfl w.heap.size _ _ rfl (HOWN.out.alloc _) _ _ rfl (cell_of (heap_hit _ _ _ rfl) 0) rfl (by have := HLL.out; omega) (by simp; omega) ?_; intro v' w3 hown3 hgr3 hbel3) | fail)
          go_roundw
          case rel =>
            refine ⟨j + 1, by omega, by go_num, ?_, (Below_al hb _).trans hbel3⟩
            rw [← HST.out]
            exact hown3
          case measure => simp [intOf]; omega
        · obtain rfl : j = 20 := by omega
          go_wp2_with (first | (at_builtin; refine wp_appS rfl _ _ rfl w.heap.size _ _ rfl HOWN.out ⟨#[]⟩ rfl (by have := HLL.out; omega) (by decide) hsz ?_; intro v' w3 hown3 hgr3 hbel3) | fail)
          go_roundw
          case rel =>
            refine ⟨k + 1, by omega, by go_num, ?_, hb.trans hbel3⟩
            rw [TS.out, ← List.append_assoc]
            exact hown3
          case measure => simp [intOf]; omega
    · obtain rfl : k = 24 := by omega
      have hsz := hb.size
      have HOWN := Lib.hid hown
      have hcv := hown.conv
      clear hown
      go_wp2
      go_ret
      exact ⟨rfl, hb⟩
set_option maxHeartbeats 2000000 in
theorem l13Text_any (A : Option Addr) (c : Nat) (rows : List (List Int)) (w : World) (h : RdG w A rows) (hok : picOk rows = true) :
    Calls Tryz.prog 22 #[.slice A 24 c] w fun e w' => e = .returned (.string ⟨(textT letC [] rows 24).toArray⟩) ∧ Below w.heap.size w w' := by
  have HL := Lib.hid (picOk_24 hok)
  have HOK := Lib.hid hok
  clear hok
  go_enter Tryz.func22, Tryz.ntmps22
  go_wp2_with fail
  go_loopw [3, 4] (fun s i wr => ∃ k : Nat, k ≤ 24 ∧ i = .int .i64 k ∧ OwnB wr w.heap.size s (textT letC [] rows k) ∧ Below w.heap.size w wr) (fun _ i _ => 24 - (intOf i).toNat)
  case atStart => exact ⟨0, by omega, rfl, OwnB.empty _ _ (Nat.le_refl _), by (repeat (first | exact Below.refl _ _ | assumption | refine Below_al ?_ _ | refine Below.drew ?_ | refine Below_then ?_ (by assumption) | refine Below.setCell ?_ (by first | omega | (simp; done) | (simp; omega)) _))⟩
  case round =>
    obtain ⟨k, hk, rfl, hown, hb⟩ := hrel
    by_cases hlt : k < 24
    · have hd : decide ((k : Int) < 24) = true := by simp; omega
      have i1 : (k : Int) < 24 := by omega
      have hsz := hb.size
      obtain ⟨row, hrow⟩ := row_at (rows := rows) (k := k) (by have := HL.out; omega)
      obtain ⟨b, off, A', c', rfl, hc0, hr, -⟩ := h.atv hrow
      have hrg := picOk_row HOK.out hrow
      have hr20 := rowG_20 hrg
      rw [hr20] at hc0
      have hc1 := keep_cell hc0 hb
      have HC0 := Lib.hid hc0
      have HR := Lib.hid hr
      have HR20 := Lib.hid hr20
      have HRG := Lib.hid hrg
      have HROW := Lib.hid hrow
      have TL := Lib.hid (textT_len letC [] rows k)
      have TS := Lib.hid (textT_snoc (f := letC) (tl := []) hrow)
      clear hrow hrg hr20 hr hc0
      go_wp2_with fail
      clear hd hc1
      go_loopw [3, 5] (fun s i wr => ∃ j : Nat, j ≤ 20 ∧ i = .int .i64 j ∧ OwnB wr w.heap.size s (textT letC [] rows k ++ rowT letC k row j) ∧ Below w.heap.size w wr) (fun _ i _ => 20 - (intOf i).toNat)
      case atStart => exact ⟨0, by omega, rfl, by simpa [rowT] using hown, hb⟩
      case round =>
        clear hown hb hsz
        obtain ⟨j, hj, rfl, hown, hb⟩ := hrel
        have hsz := hb.size
        have hll : (textT letC [] rows k ++ rowT letC k row j).length ≤ 100000 := by
          rw [List.length_append, TL.out, rowT_len]
          simp
          omega
        have HLL := Lib.hid hll
        have HOWN := Lib.hid hown
        clear hll hown
        by_cases hlt2 : j < 20
        · have hd2 : decide ((j : Int) < 20) = true := by simp; omega
          have i2 : (j : Int) < 20 := by omega
          have hc1 := keep_cell HC0.out hb
          obtain ⟨v, hv⟩ : ∃ v, row[j]? = some v := ⟨row[j]'(by have := HR20.out; omega), List.getElem?_eq_getElem _⟩
          obtain ⟨v0, v9⟩ := cellG_bd (rowG_cell HRG.out hv)
          obtain ⟨b2, off2, rfl, hc2, -⟩ := (HR.out.below hb).atv hv
          have HST := Lib.hid (textT_step (f := letC) (tl := []) (rows := rows) (k := k) hv)
          clear hv
          have hix := letIdx v v0 v9
          have hcc : letC k j v = letU v := rfl
          generalize letU v = cc at *
          rw [hcc] at HST
          clear hcc
          go_wp2_with (first | (at_builtin; refine wp_appB cc rfl _ _ rfl w.heap.size _ _ rfl (HOWN.out.alloc _) _ _ rfl (cell_of (heap_hit _ _ _ rfl) 0) rfl (by have := HLL.out; omega) (by simp; omega) ?_; intro v' w3 hown3 hgr3 hbel3) | fail)
          go_roundw
          case rel =>
            refine ⟨j + 1, by omega, by go_num, ?_, (Below_al hb _).trans hbel3⟩
            rw [← HST.out]
            exact hown3
          case measure => simp [intOf]; omega
        · obtain rfl : j = 20 := by omega
          go_wp2
          go_roundw
          case rel =>
            refine ⟨k + 1, by omega, by go_num, ?_, hb⟩
            rw [TS.out, List.append_nil]
            exact HOWN.out
          case measure => simp [intOf]; omega
    · obtain rfl : k = 24 := by omega
      have hsz := hb.size
      have HOWN := Lib.hid hown
      have hcv := hown.conv
      clear hown
      go_wp2
      go_ret
      exact ⟨rfl, hb⟩
end Go.Proofs.YtenaadmifppphaaGreatDoor
