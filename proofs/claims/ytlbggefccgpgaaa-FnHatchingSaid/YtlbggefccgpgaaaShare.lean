/- Contracts: ShareOf, both sides. -/
import Derived.Test.YtlbggefccgpgaaaPics
import Derived.Test.YtlbggefccgpgaaaCntG
import Derived.Test.YtlbggefccgpgaaaArea
import Derived.IntWalk
namespace Go.Proofs.Ytlbggefccgpgaaa
open Go.ChangeShapes Go.WideShapes Go.ChangeAt Go.RowKit
set_option linter.unusedVariables false
def vAt (rows : List (List Int)) (y x : Nat) : Int := (rows.getD y []).getD x 0
theorem vAt_eq {rows : List (List Int)} {y x : Nat} {row : List Int} {v : Int} (hr : rows[y]? = some row) (hv : row[x]? = some v) : vAt rows y x = v := by
  simp [vAt, List.getD_eq_getElem?_getD, hr, hv]
/-- Cells equal to t, and cells other than 0, in the first k rows and j cells of the next. -/
def eqN (rows : List (List Int)) (t : Int) (k j : Nat) : Nat := cntG (fun y x => vAt rows y x == t) 20 k + cntR (fun x => vAt rows k x == t) j
def neN (rows : List (List Int)) (k j : Nat) : Nat := cntG (fun y x => vAt rows y x != 0) 20 k + cntR (fun x => vAt rows k x != 0) j
theorem eqN_le (rows : List (List Int)) (t : Int) (k j : Nat) : eqN rows t k j ≤ 24 * k + j := by
  have h1 := cntG_le (fun y x => vAt rows y x == t) 20 k (by omega)
  have h2 := cntR_le (fun x => vAt rows k x == t) j
  unfold eqN; omega
theorem neN_le (rows : List (List Int)) (k j : Nat) : neN rows k j ≤ 24 * k + j := by
  have h1 := cntG_le (fun y x => vAt rows y x != 0) 20 k (by omega)
  have h2 := cntR_le (fun x => vAt rows k x != 0) j
  unfold neN; omega
theorem eqN_step {rows : List (List Int)} {t : Int} {k j : Nat} {v : Int} (hv : vAt rows k j = v) : eqN rows t k (j + 1) = eqN rows t k j + (bif v == t then 1 else 0) := by
  unfold eqN
  rw [cntR, hv, Bool.cond_eq_ite]
  omega
theorem neN_step {rows : List (List Int)} {k j : Nat} {v : Int} (hv : vAt rows k j = v) : neN rows k (j + 1) = neN rows k j + (bif v != 0 then 1 else 0) := by
  unfold neN
  rw [cntR, hv, Bool.cond_eq_ite]
  omega
theorem eqN_row (rows : List (List Int)) (t : Int) (k : Nat) : eqN rows t k 20 = eqN rows t (k + 1) 0 := by simp [eqN, cntG, cntR]
theorem neN_row (rows : List (List Int)) (k : Nat) : neN rows k 20 = neN rows (k + 1) 0 := by simp [neN, cntG, cntR]
theorem eqN_zero (rows : List (List Int)) (t : Int) : eqN rows t 0 0 = 0 := rfl
theorem neN_zero (rows : List (List Int)) : neN rows 0 0 = 0 := rfl
theorem sh_count : cntG (fun y x => inSh x y) 20 24 = 430 := by decide +kernel
theorem ne_shield {rows : List (List Int)} (h : picOk rows = true) : neN rows 24 0 = 430 := by
  have e : cntG (fun y x => vAt rows y x != 0) 20 24 = cntG (fun y x => inSh x y) 20 24 := by
    exact cntG_congr _ _ fun y hy x hx => by
      have hl := picOk_24 h
      have hr : rows[y]? = some (rows[y]'(by omega)) := List.getElem?_eq_getElem _
      have hg := picOk_row h hr
      have h20 := rowG_20 hg
      have hv : (rows[y]'(by omega))[x]? = some ((rows[y]'(by omega))[x]'(by omega)) := List.getElem?_eq_getElem _
      have hc := rowG_cell hg hv
      rw [vAt_eq hr hv]
      generalize (rows[y]'(by omega))[x]'(by omega) = v at *
      unfold cellG at hc
      cases hz : inSh x y <;> rw [hz] at hc <;> simp at hc ⊢ <;> omega
  unfold neN
  rw [e]
  exact sh_count
theorem shield_area : areaN (regRows fun _ _ => true) 24 = 430 := by decide +kernel
def shareN (rows : List (List Int)) (t : Int) : Int := bif picOk rows && decide (1 ≤ t ∧ t ≤ 9) then (eqN rows t 24 0 : Nat) else 0
def shareA (rows : List (List Int)) (t : Int) : Int := bif picOk rows && decide (1 ≤ t ∧ t ≤ 9) then 430 else 0
theorem make9 (w : World) : (Instr.makeSlice 30 (.int .i64 9) (.int .i64 9)).run Try.prog w = .ok (.slice (some ⟨w.heap.size, 0, none⟩) 9 9) (w.alloc (.cells (ints (List.replicate 9 0)) 3)) := by kernel_rfl
def cL (rows : List (List Int)) (k j : Nat) : List Int := (List.range 9).map fun (u : Nat) => ((eqN rows ((u : Int) + 1) k j : Nat) : Int)
theorem cL_len (rows : List (List Int)) (k j : Nat) : (cL rows k j).length = 9 := by simp [cL]
theorem cL_zero (rows : List (List Int)) : cL rows 0 0 = List.replicate 9 0 := by
  unfold cL
  simp only [eqN_zero]
  rfl
theorem cL_row (rows : List (List Int)) (k : Nat) : cL rows k 20 = cL rows (k + 1) 0 := by simp [cL, eqN_row]
theorem cL_get (rows : List (List Int)) (k j u : Nat) (hu : u < 9) : (cL rows k j)[u]'(by rw [cL_len]; exact hu) = ((eqN rows ((u : Int) + 1) k j : Nat) : Int) := by simp [cL]
theorem cL_keep {rows : List (List Int)} {k j : Nat} (hv : vAt rows k j = 0) : cL rows k (j + 1) = cL rows k j := by
  unfold cL
  apply List.map_congr_left
  intro u hu
  rw [eqN_step hv, show ((0 : Int) == (u : Int) + 1) = false by simp; omega]
  rfl
theorem cL_set {rows : List (List Int)} {k j u : Nat} (hu : u < 9) (hv : vAt rows k j = (u : Int) + 1) : (cL rows k j).set u (((eqN rows ((u : Int) + 1) k j : Nat) : Int) + 1) = cL rows k (j + 1) := by
  apply List.ext_getElem (by simp [cL])
  intro i h1 h2
  rw [List.getElem_set]
  rw [cL_len] at h2
  rw [cL_get rows k (j + 1) i h2, eqN_step hv]
  by_cases e : u = i
  · subst e
    rw [if_pos rfl]
    simp
  · rw [if_neg e, cL_get rows k j i h2, show ((u : Int) + 1 == (i : Int) + 1) = false by simp; omega]
    simp
def CountPost (w : World) (rows : List (List Int)) (e : Ending) (w' : World) : Prop :=
  ∃ g, e = .returned (.slice (some ⟨g, 0, none⟩) 9 9) ∧ w'.heap[g]? = some (.cells (ints (cL rows 24 0)) 3 (0, 0)) ∧ Below w.heap.size w w'
set_option maxHeartbeats 2000000 in
theorem counted_any (A : Option Addr) (c : Nat) (rows : List (List Int)) (w : World) (h : RdG w A rows) (hok : picOk rows = true) :
    Calls Try.prog 23 #[.slice A 24 c, .int .i64 9] w (CountPost w rows) := by
  have hmk := make9
  have HL := Lib.hid (picOk_24 hok)
  have HOK := Lib.hid hok
  clear hok
  go_enter Try.func23, Try.ntmps23
  go_wp2_with fail
  go_loopw [14] (fun i wr => ∃ k : Nat, k ≤ 24 ∧ i = .int .i64 k ∧ wr.heap[w.heap.size]? = some (.cells (ints (cL rows k 0)) 3 (0, 0)) ∧ Below w.heap.size w wr) (fun i _ => 24 - (intOf i).toNat)
  case atStart => exact ⟨0, by omega, rfl, by rw [cL_zero]; exact heap_hit _ _ _ rfl, by (repeat (first | exact Below.refl _ _ | assumption | refine Below_al ?_ _ | refine Below.drew ?_ | refine Below_then ?_ (by assumption) | refine Below.setCell ?_ (by first | omega | (simp; done) | (simp; omega)) _))⟩
  case round =>
    obtain ⟨k, hk, rfl, hblk, hb⟩ := hrel
    by_cases hlt : k < 24
    · have hd : decide ((k : Int) < 24) = true := by simp; omega
      have i1 : (k : Int) < 24 := by omega
      obtain ⟨row, hrow⟩ := row_at (rows := rows) (k := k) (by have := HL.out; omega)
      obtain ⟨b, off, A', c', rfl, hc0, hr, -⟩ := h.atv hrow
      have hrg := picOk_row HOK.out hrow
      have hr20 := rowG_20 hrg
      rw [hr20] at hc0
      have hc1 := keep_cell hc0 hb
      have HR := Lib.hid hr
      have HR20 := Lib.hid hr20
      have HRG := Lib.hid hrg
      have HROW := Lib.hid hrow
      have E0 := Lib.hid (cL_row rows k)
      have HBLK := Lib.hid hblk
      clear hrow hrg hr20 hr hc0 hblk
      go_wp2_with fail
      clear hd hc1
      go_loopw [20] (fun i wr => ∃ j : Nat, j ≤ 20 ∧ i = .int .i64 j ∧ wr.heap[w.heap.size]? = some (.cells (ints (cL rows k j)) 3 (0, 0)) ∧ Below w.heap.size w wr) (fun i _ => 20 - (intOf i).toNat)
      case atStart => exact ⟨0, by omega, rfl, HBLK.out, hb⟩
      case round =>
        clear HBLK hb
        obtain ⟨j, hj, rfl, hblk, hb⟩ := hrel
        by_cases hlt2 : j < 20
        · have hd2 : decide ((j : Int) < 20) = true := by simp; omega
          have i2 : (j : Int) < 20 := by omega
          obtain ⟨v, hv⟩ : ∃ v, row[j]? = some v := ⟨row[j]'(by have := HR20.out; omega), List.getElem?_eq_getElem _⟩
          obtain ⟨v0, v9⟩ := cellG_bd (rowG_cell HRG.out hv)
          obtain ⟨b2, off2, rfl, hc2, -⟩ := (HR.out.below hb).atv hv
          have hva := vAt_eq HROW.out hv
          clear hv
          by_cases h0 : v = 0
          · subst h0
            have HS := Lib.hid (cL_keep hva)
            have HBLK := Lib.hid hblk
            clear hva hblk
            go_wp2
            go_roundw
            case rel => exact ⟨j + 1, by omega, by go_num, by rw [HS.out]; exact HBLK.out, hb⟩
            case measure => simp [intOf]; omega
          · obtain ⟨u, rfl⟩ : ∃ u : Nat, v = (u : Int) + 1 := ⟨(v - 1).toNat, by omega⟩
            have hu : u < 9 := by omega
            have HS := Lib.hid (cL_set hu hva)
            have c3 : wr.cell? ⟨w.heap.size, u, none⟩ = some (.int .i64 ((eqN rows ((u : Int) + 1) k j : Nat) : Int)) := by
              rw [ints_cell hblk u (by rw [cL_len]; exact hu), cL_get rows k j u hu]
            have f3 := frozen_of hblk u
            have g1 := eqN_le rows ((u : Int) + 1) k j
            have HBLK := Lib.hid hblk
            have j1 : (u : Int) < 9 := by omega
            clear hva hblk h0
            generalize eqN rows ((u : Int) + 1) k j = p at *
            go_wp2
            go_roundw
            case rel => exact ⟨j + 1, by omega, by go_num, by rw [heap_set _ _ _ _ _ _ HBLK.out, set_ints, HS.out], hb.setCell (Nat.le_refl _) _⟩
            case measure => simp [intOf]; omega
        · obtain rfl : j = 20 := by omega
          go_wp2
          go_roundw
          case rel => exact ⟨k + 1, by omega, by go_num, by rw [← E0.out]; exact hblk, hb⟩
          case measure => simp [intOf]; omega
    · obtain rfl : k = 24 := by omega
      go_wp2
      go_ret
      exact ⟨_, rfl, hblk, hb⟩
def ShareCell (w : World) (n : Int) (u : Nat) (e : Ending) (w' : World) : Prop :=
  ∃ g, e = .returned (.slice (some ⟨g, 0, none⟩) 9 9) ∧ w'.cell? ⟨g, u, none⟩ = some (.int .i64 n) ∧ g < w'.heap.size ∧ Below w.heap.size w w'
theorem shield_any (w : World) : Calls Try.prog 24 #[] w (fun e w' => ∃ A c, e = .returned (.agg #[.slice A 24 c]) ∧ RdI w' A (regRows fun _ _ => true) ∧ Below w.heap.size w w') :=
  (ShieldRegion_any w).mono fun _ _ ⟨v, he, ho, hb⟩ => by
    obtain ⟨A, c, rfl, hr⟩ := ho.form
    rw [regRows_len] at he
    exact ⟨A, c, he, hr, hb⟩
theorem shield_rows : ∀ v ∈ regRows (fun _ _ => true), 0 ≤ v ∧ v ≤ 1048575 := by decide +kernel
set_option maxHeartbeats 2000000 in
theorem ShareOf_any (A : Option Addr) (c : Nat) (rows : List (List Int)) (t : Int) (w : World) (h : RdG w A rows) (hs : Small rows) :
    Calls Try.prog 8 #[.slice A rows.length c, .int .i64 t] w fun e w' => e = .returned (.tuple #[.int .i64 (shareN rows t), .int .i64 (shareA rows t), .bool (picOk rows && decide (1 ≤ t ∧ t ≤ 9))]) ∧ Below w.heap.size w w' := by
  have K := fun w' (hb : Below w.heap.size w w') => IsValidPicture_any A c rows w' (h.below hb) hs
  by_cases hok : picOk rows = true
  · by_cases ht : 1 ≤ t ∧ t ≤ 9
    · have hl := picOk_24 hok
      have e1 : shareN rows t = (eqN rows t 24 0 : Nat) := by simp [shareN, hok, ht]
      have e2 : shareA rows t = 430 := by simp [shareA, hok, ht]
      have e3 : (picOk rows && decide (1 ≤ t ∧ t ≤ 9)) = true := by simp [hok, ht]
      rw [hok] at K
      rw [e1, e2, e3]
      rw [hl] at K ⊢
      obtain ⟨u, rfl⟩ : ∃ u : Nat, t = (u : Int) + 1 := ⟨(t - 1).toNat, by omega⟩
      have hu : u < 9 := by omega
      have L : ∀ w', Below w.heap.size w w' → Calls Try.prog 23 #[.slice A 24 c, .int .i64 9] w' (ShareCell w' (eqN rows ((u : Int) + 1) 24 0 : Nat) u) := fun w' hb => (counted_any A c rows w' (h.below hb) hok).mono fun _ w2 ⟨g, he, hblk, hb2⟩ => ⟨g, he, by rw [ints_cell hblk u (by rw [cL_len]; exact hu), cL_get rows 24 0 u hu], heap_lt hblk, hb2⟩
      have M := fun A c w' (hr : RdI w' A (regRows fun _ _ => true)) => area_any A c (regRows fun _ _ => true) w' hr (regRows_len _) shield_rows
      rw [shield_area] at M
      have S := shield_any
      generalize eqN rows ((u : Int) + 1) 24 0 = n at *
      generalize (regRows fun _ _ => true) = sr at *
      have K' := Lib.hid K
      have L' := Lib.hid L
      have M' := Lib.hid M
      have S' := Lib.hid S
      have u1 : (u : Int) < 9 := by omega
      have z1 : IntKind.i64.wrap ((u : Int) + 1 - 1) = (u : Int) := by rw [IntWalk.i64_in _ ⟨by omega, by omega⟩]; omega
      have z2 : IntKind.i64.wrap (u : Int) = (u : Int) := by rw [IntWalk.i64_in _ ⟨by omega, by omega⟩]
      have Z1 := Lib.hid z1
      have Z2 := Lib.hid z2
      clear z1 z2
      clear K L M S hok hl hs h e1 e2 e3
      obtain ⟨t1, t9⟩ := ht
      go_enter Try.func8, Try.ntmps8
      go_wp2_with (first | (go_at_call 18; refine (K'.out _ (Below.refl _ _)).mono ?_; rintro e w1 ⟨rfl, hb1⟩) | (go_at_call 22; refine (IsTincture_any _ _).mono ?_; rintro e w' ⟨rfl, rfl⟩) | fail)
      have z1 := Z1.out
      have z2 := Z2.out
      go_region_with (first | (go_at_call 23; refine (L'.out _ (by (repeat (first | exact Below.refl _ _ | assumption | refine Below_al ?_ _ | refine Below.drew ?_ | refine Below_then ?_ (by assumption) | refine Below.setCell ?_ (by first | omega | (simp; done) | (simp; omega)) _)))).mono ?_; rintro e w2 ⟨g, rfl, hc2, hg2, hb2⟩; obtain ⟨hcc2, hff2⟩ := bcell hb2) | (go_at_call 24; refine (S'.out _).mono ?_; rintro e w3 ⟨A3, c3, rfl, hr3, hb3⟩; obtain ⟨hcc3, hff3⟩ := bcell hb3; (try have hg3 : g < w3.heap.size := Nat.lt_of_lt_of_le hg2 hb3.size)) | (go_at_call 25; refine (M'.out _ _ _ (by first | exact hr3 | exact hr3.below hb2)).mono ?_; rintro e w4 ⟨rfl, hb4⟩; obtain ⟨hcc4, hff4⟩ := bcell hb4; (try have hg4 : g < w4.heap.size := Nat.lt_of_lt_of_le (by first | exact hg3 | exact hg2) hb4.size)))
      all_goals (go_wp2; go_ret3; exact ⟨rfl, by (repeat (first | exact Below.refl _ _ | assumption | refine Below_al ?_ _ | refine Below.drew ?_ | refine Below_then ?_ (by assumption) | refine Below.setCell ?_ (by first | omega | (simp; done) | (simp; omega)) _))⟩)
    · have e0 : (picOk rows && decide (1 ≤ t ∧ t ≤ 9)) = false := by simp [ht]
      have e1 : shareN rows t = 0 := by simp only [shareN, e0, cond_false]
      have e2 : shareA rows t = 0 := by simp only [shareA, e0, cond_false]
      have d1 : decide (1 ≤ t ∧ t ≤ 9) = false := by simpa using ht
      rw [e0, e1, e2]
      rw [hok] at K
      have K' := Lib.hid K
      clear K hok hs ht e0 e1 e2
      go_enter Try.func8, Try.ntmps8
      go_wp2_with (first | (go_at_call 18; refine (K'.out _ (Below.refl _ _)).mono ?_; rintro e w1 ⟨rfl, hb1⟩) | (go_at_call 22; refine (IsTincture_any _ _).mono ?_; rintro e w' ⟨rfl, rfl⟩) | fail)
      go_ret3
      exact ⟨rfl, hb1⟩
  · have hok' : picOk rows = false := by simpa using hok
    have e0 : (picOk rows && decide (1 ≤ t ∧ t ≤ 9)) = false := by simp [hok']
    have e1 : shareN rows t = 0 := by simp only [shareN, e0, cond_false]
    have e2 : shareA rows t = 0 := by simp only [shareA, e0, cond_false]
    rw [e0, e1, e2]
    rw [hok'] at K
    have K' := Lib.hid K
    clear K hok hok' hs e0 e1 e2
    go_enter Try.func8, Try.ntmps8
    go_wp2_with (first | (go_at_call 18; refine (K'.out _ (Below.refl _ _)).mono ?_; rintro e w1 ⟨rfl, hb1⟩) | fail)
    go_ret3
    exact ⟨rfl, hb1⟩
end Go.Proofs.Ytlbggefccgpgaaa
