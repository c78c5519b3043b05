/- Contracts: HatchText, both sides. -/
import Derived.Test.YtgnfgkkepninpaaPics
import Derived.Test.YtgnfgkkepninpaaBytes
import Derived.Test.YtgnfgkkepninpaaText
import Derived.Test.YtgnfgkkepninpaaHatch
namespace Go.Proofs.Ytgnfgkkepninpaa
open Go.ChangeShapes Go.WideShapes Go.ChangeAt Go.RowKit
set_option linter.unusedVariables false
def hatchC (y x : Nat) (v : Int) : UInt8 := if v = 0 then 35 else UInt8.ofNat (hatchF v x y).toNat
theorem ei_bd {b : Bool} {p q : Int} (hp : 0 ≤ p ∧ p < 256) (hq : 0 ≤ q ∧ q < 256) : 0 ≤ ei b p q ∧ ei b p q < 256 := by cases b <;> simpa [ei]
theorem hatchF_bd (t x y : Int) : 0 ≤ hatchF t x y ∧ hatchF t x y < 256 := by
  unfold hatchF
  repeat' (first | exact ei_bd (by decide) (by decide) | exact ei_bd (by decide) (ei_bd (by decide) (ei_bd (by decide) (by decide))) | (exact ⟨by decide, by decide⟩) | split)
theorem hatchC_eq {y x : Nat} {v : Int} (h : ¬ v = 0) : hatchF v x y = ((hatchC y x v).toNat : Int) := by
  have hb := hatchF_bd v x y
  unfold hatchC
  rw [if_neg h, UInt8.toNat_ofNat']
  omega
def hatchT (rows : List (List Int)) : List UInt8 := bif picOk rows then textT hatchC [10] rows 24 else []
set_option maxHeartbeats 2000000 in
theorem HatchText_any (A : Option Addr) (c : Nat) (rows : List (List Int)) (w : World) (h : RdG w A rows) (hs : Small rows) :
    Calls Try.prog 33 #[.slice A rows.length c] w fun e w' => e = .returned (.tuple #[.string ⟨(hatchT rows).toArray⟩, .bool (picOk rows)]) ∧ Below w.heap.size w w' := by
  have K := fun w' (hb : Below w.heap.size w w') => IsValidPicture_any A c rows w' (h.below hb) hs
  by_cases hok : picOk rows = true
  · have hl := picOk_24 hok
    have hz : hatchT rows = textT hatchC [10] rows 24 := by simp [hatchT, hok]
    rw [hok] at K
    rw [hok, hz]
    rw [hl] at K ⊢
    have K' := Lib.hid K
    have HL := Lib.hid hl
    have HOK := Lib.hid hok
    clear K hok hl hs hz
    go_enter Try.func33, Try.ntmps33
    go_wp2_with (first | (go_at_call 22; refine (K'.out _ (Below.refl _ _)).mono ?_; rintro e w1 ⟨rfl, hb1⟩) | fail)
    go_loopw [4, 15] (fun s i wr => ∃ k : Nat, k ≤ 24 ∧ i = .int .i64 k ∧ OwnB wr w.heap.size s (textT hatchC [10] rows k) ∧ Below w.heap.size w wr) (fun _ i _ => 24 - (intOf i).toNat)
    case atStart => exact ⟨0, by omega, rfl, OwnB.empty _ _ (by first | exact Nat.le_refl _ | exact hb1.size), by (repeat (first | exact Below.refl _ _ | assumption | refine Below_al ?_ _ | refine Below.drew ?_ | refine Below_then ?_ (by assumption) | refine Below.setCell ?_ (by first | omega | (simp; done) | (simp; omega)) _))⟩
    case round =>
      obtain ⟨k, hk, rfl, hown, hb⟩ := hrel
      by_cases hlt : k < 24
      · have hd : decide ((k : Int) < 24) = true := by simp; omega
        have i1 : (k : Int) < 24 := by omega
        have hsz := hb.size
        obtain ⟨row, hrow⟩ := row_at (rows := rows) (k := k) (by have := HL.out; omega)
        obtain ⟨b, off, A', c', rfl, hc0, hr, -⟩ := h.atv hrow
        have hrg := picOk_row HOK.out hrow
        have hr20 := rowG_20 hrg
        rw [hr20] at hc0
        have hc1 := keep_cell hc0 hb
        have HC0 := Lib.hid hc0
        have HR := Lib.hid hr
        have HR20 := Lib.hid hr20
        have HRG := Lib.hid hrg
        have HROW := Lib.hid hrow
        have TL := Lib.hid (textT_len hatchC [10] rows k)
        have TS := Lib.hid (textT_snoc (f := hatchC) (tl := [10]) hrow)
        clear hrow hrg hr20 hr hc0
        go_wp2_with fail
        clear hd hc1
        go_loopw [4, 22] (fun s i wr => ∃ j : Nat, j ≤ 20 ∧ i = .int .i64 j ∧ OwnB wr w.heap.size s (textT hatchC [10] rows k ++ rowT hatchC k row j) ∧ Below w.heap.size w wr) (fun _ i _ => 20 - (intOf i).toNat)
        case atStart => exact ⟨0, by omega, rfl, by simpa [rowT] using hown, hb⟩
        case round =>
          clear hown hb hsz
          obtain ⟨j, hj, rfl, hown, hb⟩ := hrel
          have hsz := hb.size
          have hll : (textT hatchC [10] rows k ++ rowT hatchC k row j).length ≤ 100000 := by
            rw [List.length_append, TL.out, rowT_len]
            simp
            omega
          have HLL := Lib.hid hll
          have HOWN := Lib.hid hown
          clear hll hown
          by_cases hlt2 : j < 20
          · have hd2 : decide ((j : Int) < 20) = true := by simp; omega
            have i2 : (j : Int) < 20 := by omega
            have hc1 := keep_cell HC0.out hb
            obtain ⟨v, hv⟩ : ∃ v, row[j]? = some v := ⟨row[j]'(by have := HR20.out; omega), List.getElem?_eq_getElem _⟩
            obtain ⟨v0, v9⟩ := cellG_bd (rowG_cell HRG.out hv)
            obtain ⟨b2, off2, rfl, hc2, -⟩ := (HR.out.below hb).atv hv
            have HST := Lib.hid (textT_step (f := hatchC) (tl := [10]) (rows := rows) (k := k) hv)
            clear hv
            by_cases h0 : v = 0
            · subst h0
              go_wp2_with (first | (at_builtin; refine wp_appB 35 rfl _ _ rfl w.heap.size _ _ rfl (HOWN.out.alloc _) _ _ rfl (cell_of (heap_hit _ _ _ rfl) 0) rfl (by have := HLL.out; omega) (by simp; omega) ?_; intro v' w3 hown3 hgr3 hbel3) | fail)
              go_roundw
              case rel =>
                refine ⟨j + 1, by omega, by go_num, ?_, (Below_al hb _).trans hbel3⟩
                rw [← HST.out]
                exact hown3
              case measure => simp [intOf]; omega
            · have n0 : (v == 0) = false := by simpa using h0
              have hce := hatchC_eq (y := k) (x := j) h0
              have KH : ∀ w, Calls Try.prog 69 #[.int .i64 v, .int .i64 j, .int .i64 k] w fun e w' => e = .returned (.int .u8 ((hatchC k j v).toNat : Int)) ∧ w = w' := fun w => by
                rw [← hce]
                exact hatch_any v j k w (by omega) (by omega) (by omega) (by omega) (by omega) (by omega)
              generalize hatchC k j v = cc at *
              have KH' := Lib.hid KH
              clear KH hce h0
              go_wp2_with (first | (at_builtin; refine wp_appB cc rfl _ _ rfl w.heap.size _ _ rfl (HOWN.out.alloc _) _ _ rfl (cell_of (heap_hit _ _ _ rfl) 0) rfl (by have := HLL.out; omega) (by simp; omega) ?_; intro v' w3 hown3 hgr3 hbel3) | (first | (go_at_call 69; refine (KH'.out _).mono ?_; rintro e w' ⟨rfl, rfl⟩) | fail))
              go_roundw
              case rel =>
                refine ⟨j + 1, by omega, by go_num, ?_, (Below_al hb _).trans hbel3⟩
                rw [← HST.out]
                exact hown3
              case measure => simp [intOf]; omega
          · obtain rfl : j = 20 := by omega
            go_wp2_with (first | (at_builtin; refine wp_appB 10 rfl _ _ rfl w.heap.size _ _ rfl (HOWN.out.alloc _) _ _ rfl (cell_of (heap_hit _ _ _ rfl) 0) rfl (by have := HLL.out; omega) (by simp; omega) ?_; intro v' w3 hown3 hgr3 hbel3) | fail)
            go_roundw
            case rel =>
              refine ⟨k + 1, by omega, by go_num, ?_, (Below_al hb _).trans hbel3⟩
              rw [TS.out, ← List.append_assoc]
              exact hown3
            case measure => simp [intOf]; omega
      · obtain rfl : k = 24 := by omega
        have hsz := hb.size
        have HOWN := Lib.hid hown
        have hcv := hown.conv
        clear hown
        go_wp2
        go_ret2
        exact ⟨rfl, hb⟩
  · have hok' : picOk rows = false := by simpa using hok
    have hz : hatchT rows = [] := by simp [hatchT, hok']
    rw [hok'] at K
    rw [hok', hz]
    have K' := Lib.hid K
    clear K hok hok' hs hz h
    go_enter Try.func33, Try.ntmps33
    go_wp2_with (first | (go_at_call 22; refine (K'.out _ (Below.refl _ _)).mono ?_; rintro e w1 ⟨rfl, hb1⟩) | fail)
    go_ret2
    exact ⟨rfl, by (repeat (first | exact Below.refl _ _ | assumption | refine Below_al ?_ _ | refine Below.drew ?_ | refine Below_then ?_ (by assumption) | refine Below.setCell ?_ (by first | omega | (simp; done) | (simp; omega)) _))⟩
set_option maxHeartbeats 2000000 in
theorem specHatchText_any (A : Option Addr) (c : Nat) (rows : List (List Int)) (w : World) (h : RdG w A rows) (hs : Small rows) :
    Calls Try.prog 32 #[.slice A rows.length c] w fun e w' => e = .returned (.tuple #[.string ⟨(hatchT rows).toArray⟩, .bool (picOk rows)]) ∧ Below w.heap.size w w' := by
  have K := fun w' (hb : Below w.heap.size w w') => l13Good_any A c rows w' (h.below hb) hs
  by_cases hok : picOk rows = true
  · have hl := picOk_24 hok
    have hz : hatchT rows = textT hatchC [10] rows 24 := by simp [hatchT, hok]
    rw [hok] at K
    rw [hok, hz]
    rw [hl] at K ⊢
    have K' := Lib.hid K
    have HL := Lib.hid hl
    have HOK := Lib.hid hok
    clear K hok hl hs hz
    go_enter Try.func32, Try.ntmps32
    go_wp2_with (first | (go_at_call 55; refine (K'.out _ (Below.refl _ _)).mono ?_; rintro e w1 ⟨rfl, hb1⟩) | fail)
    go_loopw [4, 5] (fun s i wr => ∃ k : Nat, k ≤ 24 ∧ i = .int .i64 k ∧ OwnB wr w.heap.size s (textT hatchC [10] rows k) ∧ Below w.heap.size w wr) (fun _ i _ => 24 - (intOf i).toNat)
    case atStart => exact ⟨0, by omega, rfl, OwnB.empty _ _ (by first | exact Nat.le_refl _ | exact hb1.size), by (repeat (first | exact Below.refl _ _ | assumption | refine Below_al ?_ _ | refine Below.drew ?_ | refine Below_then ?_ (by assumption) | refine Below.setCell ?_ (by first | omega | (simp; done) | (simp; omega)) _))⟩
    case round =>
      obtain ⟨k, hk, rfl, hown, hb⟩ := hrel
      by_cases hlt : k < 24
      · have hd : decide ((k : Int) < 24) = true := by simp; omega
        have i1 : (k : Int) < 24 := by omega
        have hsz := hb.size
        obtain ⟨row, hrow⟩ := row_at (rows := rows) (k := k) (by have := HL.out; omega)
        obtain ⟨b, off, A', c', rfl, hc0, hr, -⟩ := h.atv hrow
        have hrg := picOk_row HOK.out hrow
        have hr20 := rowG_20 hrg
        rw [hr20] at hc0
        have hc1 := keep_cell hc0 hb
        have HC0 := Lib.hid hc0
        have HR := Lib.hid hr
        have HR20 := Lib.hid hr20
        have HRG := Lib.hid hrg
        have HROW := Lib.hid hrow
        have TL := Lib.hid (textT_len hatchC [10] rows k)
        have TS := Lib.hid (textT_snoc (f := hatchC) (tl := [10]) hrow)
        clear hrow hrg hr20 hr hc0
        go_wp2_with fail
        clear hd hc1
        go_loopw [4, 6] (fun s i wr => ∃ j : Nat, j ≤ 20 ∧ i = .int .i64 j ∧ OwnB wr w.heap.size s (textT hatchC [10] rows k ++ rowT hatchC k row j) ∧ Below w.heap.size w wr) (fun _ i _ => 20 - (intOf i).toNat)
        case atStart => exact ⟨0, by omega, rfl, by simpa [rowT] using hown, hb⟩
        case round =>
          clear hown hb hsz
          obtain ⟨j, hj, rfl, hown, hb⟩ := hrel
          have hsz := hb.size
          have hll : (textT hatchC [10] rows k ++ rowT hatchC k row j).length ≤ 100000 := by
            rw [List.length_append, TL.out, rowT_len]
            simp
            omega
          have HLL := Lib.hid hll
          have HOWN := Lib.hid hown
          clear hll hown
          by_cases hlt2 : j < 20
          · have hd2 : decide ((j : Int) < 20) = true := by simp; omega
            have i2 : (j : Int) < 20 := by omega
            have hc1 := keep_cell HC0.out hb
            obtain ⟨v, hv⟩ : ∃ v, row[j]? = some v := ⟨row[j]'(by have := HR20.out; omega), List.getElem?_eq_getElem _⟩
            obtain ⟨v0, v9⟩ := cellG_bd (rowG_cell HRG.out hv)
            obtain ⟨b2, off2, rfl, hc2, -⟩ := (HR.out.below hb).atv hv
            have HST := Lib.hid (textT_step (f := hatchC) (tl := [10]) (rows := rows) (k := k) hv)
            clear hv
            by_cases h0 : v = 0
            · subst h0
              go_wp2_with (first | (at_builtin; refine wp_appB 35 rfl _ _ rfl w.heap.size _ _ rfl (HOWN.out.alloc _) _ _ rfl (cell_of (heap_hit _ _ _ rfl) 0) rfl (by have := HLL.out; omega) (by simp; omega) ?_; intro v' w3 hown3 hgr3 hbel3) | fail)
              go_roundw
              case rel =>
                refine ⟨j + 1, by omega, by go_num, ?_, (Below_al hb _).trans hbel3⟩
                rw [← HST.out]
                exact hown3
              case measure => simp [intOf]; omega
            · have n0 : (v == 0) = false := by simpa using h0
              have hce := hatchC_eq (y := k) (x := j) h0
              have KH : ∀ w, Calls Try.prog 68 #[.int .i64 v, .int .i64 j, .int .i64 k] w fun e w' => e = .returned (.int .u8 ((hatchC k j v).toNat : Int)) ∧ w = w' := fun w => by
                rw [← hce]
                exact l13Sign_any v j k w (by omega) (by omega) (by omega) (by omega) (by omega) (by omega)
              generalize hatchC k j v = cc at *
              have KH' := Lib.hid KH
              clear KH hce h0
              go_wp2_with (first | (at_builtin; refine wp_appB cc rfl _ _ rfl w.heap.size _ _ rfl (HOWN.out.alloc _) _ _ rfl (cell_of (heap_hit _ _ _ rfl) 0) rfl (by have := HLL.out; omega) (by simp; omega) ?_; intro v' w3 hown3 hgr3 hbel3) | (first | (go_at_call 68; refine (KH'.out _).mono ?_; rintro e w' ⟨rfl, rfl⟩) | fail))
              go_roundw
              case rel =>
                refine ⟨j + 1, by omega, by go_num, ?_, (Below_al hb _).trans hbel3⟩
                rw [← HST.out]
                exact hown3
              case measure => simp [intOf]; omega
          · obtain rfl : j = 20 := by omega
            go_wp2_with (first | (at_builtin; refine wp_appB 10 rfl _ _ rfl w.heap.size _ _ rfl (HOWN.out.alloc _) _ _ rfl (cell_of (heap_hit _ _ _ rfl) 0) rfl (by have := HLL.out; omega) (by simp; omega) ?_; intro v' w3 hown3 hgr3 hbel3) | fail)
            go_roundw
            case rel =>
              refine ⟨k + 1, by omega, by go_num, ?_, (Below_al hb _).trans hbel3⟩
              rw [TS.out, ← List.append_assoc]
              exact hown3
            case measure => simp [intOf]; omega
      · obtain rfl : k = 24 := by omega
        have hsz := hb.size
        have HOWN := Lib.hid hown
        have hcv := hown.conv
        clear hown
        go_wp2
        go_ret2
        exact ⟨rfl, hb⟩
  · have hok' : picOk rows = false := by simpa using hok
    have hz : hatchT rows = [] := by simp [hatchT, hok']
    rw [hok'] at K
    rw [hok', hz]
    have K' := Lib.hid K
    clear K hok hok' hs hz h
    go_enter Try.func32, Try.ntmps32
    go_wp2_with (first | (go_at_call 55; refine (K'.out _ (Below.refl _ _)).mono ?_; rintro e w1 ⟨rfl, hb1⟩) | fail)
    go_ret2
    exact ⟨rfl, by (repeat (first | exact Below.refl _ _ | assumption | refine Below_al ?_ _ | refine Below.drew ?_ | refine Below_then ?_ (by assumption) | refine Below.setCell ?_ (by first | omega | (simp; done) | (simp; omega)) _))⟩
end Go.Proofs.Ytgnfgkkepninpaa
