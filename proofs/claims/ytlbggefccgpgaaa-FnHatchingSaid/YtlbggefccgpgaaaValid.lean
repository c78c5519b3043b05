/- Contracts: which regions are valid. -/
import Derived.Test.YtlbggefccgpgaaaRegion4
import Derived.Test.YtlbggefccgpgaaaMem3
import Derived.Test.YtlbggefccgpgaaaBits
namespace Go.Proofs.Ytlbggefccgpgaaa
open Go.ChangeShapes Go.WideShapes Go.ChangeAt Go.RowKit
set_option linter.unusedVariables false

def shP (y : Nat) (x : Nat) : Bool := inSh x y
theorem cellP_true (y : Nat) : cellP (fun _ _ => true) y = shP y := by
  funext x
  simp [cellP, shP]
def regOk (zs : List Int) : Bool := decide (zs.length = 24) && (List.range 24).all fun y => rowS (zs.getD y 0) (shP y)
theorem regOk_len {zs : List Int} (h : ¬ zs.length = 24) : regOk zs = false := by simp [regOk, h]
theorem regOk_yes {zs : List Int} (hl : zs.length = 24) (h : ∀ (y : Nat) (v : Int), y < 24 → zs[y]? = some v → rowS v (shP y) = true) : regOk zs = true := by
  simp only [regOk, hl, decide_true, Bool.true_and, List.all_eq_true, List.mem_range]
  intro y hy
  refine h y _ hy ?_
  rw [List.getD_eq_getElem?_getD, List.getElem?_eq_getElem (by omega)]
  rfl
theorem regOk_no {zs : List Int} {y : Nat} {v : Int} (hy : y < 24) (hv : zs[y]? = some v) (h : rowS v (shP y) = false) : regOk zs = false := by
  have : (List.range 24).all (fun y => rowS (zs.getD y 0) (shP y)) = false := by
    rw [List.all_eq_false]
    exact ⟨y, List.mem_range.2 hy, by rw [List.getD_eq_getElem?_getD, hv]; simpa using h⟩
  unfold regOk
  rw [this, Bool.and_false]
theorem l9Has_any (A : Option Addr) (c : Nat) (zs : List Int) (j k : Nat) (v : Int) (w : World) (h : RdI w A zs) (hj : j < 20) (hk : k < 24) (hv : zs[k]? = some v) (h0 : 0 ≤ v) (h1 : v ≤ 1048575) :
    Calls Try.prog 53 #[.agg #[.slice A 24 c], .int .i64 j, .int .i64 k] w fun e w' => e = .returned (.bool (hasB v j)) ∧ Below w.heap.size w w' := by
  obtain ⟨b, off, rfl, hc, hb⟩ := h.atv hv
  clear hv h
  have i1 : (j : Int) < 20 := by omega
  have i2 : (k : Int) < 24 := by omega
  go_enter Try.func53, Try.ntmps53
  go_wp2_with (first | (go_at_call 32; refine (l1In_any _ _ _ _).mono ?_; rintro e w' ⟨rfl, rfl⟩) | fail)
  go_ret
  exact ⟨rfl, by (repeat (first | exact Below.refl _ _ | assumption | refine Below_al ?_ _ | refine Below.drew ?_ | refine Below_then ?_ (by assumption) | refine Below.setCell ?_ (by first | omega | (simp; done) | (simp; omega)) _))⟩
set_option maxHeartbeats 2000000 in
theorem IsValidRegion_any (A : Option Addr) (c : Nat) (zs : List Int) (w : World) (h : RdI w A zs) (hw : ∀ v ∈ zs, v < 2 ^ 63) :
    Calls Try.prog 27 #[.agg #[.slice A zs.length c]] w fun e w' => e = .returned (.bool (regOk zs)) ∧ Below w.heap.size w w' := by
  by_cases hl : zs.length = 24
  · rw [hl]
    have HL := Lib.hid hl
    have HW := Lib.hid hw
    clear hl hw
    go_enter Try.func27, Try.ntmps27
    go_wp2_with fail
    refine (ShieldRegion_any _).mono ?_
    rintro e w1 ⟨v1, rfl, ho, hb1⟩
    obtain ⟨A1, c1, rfl, hr⟩ := ho.form
    obtain ⟨S, hS⟩ : ∃ S, S = regRows (fun _ _ => true) := ⟨_, rfl⟩
    have hSl : S.length = 24 := by rw [hS, regRows_len]
    rw [← hS] at hr
    rw [show (regRows fun _ _ => true).length = 24 from regRows_len _]
    have hSg : ∀ y, y < 24 → S[y]? = some (rowV (shP y) 20) := fun y hy => by
      rw [hS, List.getElem?_eq_getElem (by rw [regRows_len]; exact hy)]
      simp [regRows, cellF, cellP_true]
    have HSG := Lib.hid hSg
    have hF0 : w1.heap[w.heap.size]? = some (.cells #[.slice A 24 c] 32 (0, 0)) := heap_keepB (heap_hit _ _ _ rfl) hb1
    have c0 : w1.cell? ⟨w.heap.size, 0, none⟩ = some (.slice A 24 c) := cell_of hF0 0
    have hz : w.heap.size < w1.heap.size := heap_lt hF0
    have hT : Below w.heap.size w w1 := Below_then (by (repeat (first | exact Below.refl _ _ | assumption | refine Below_al ?_ _ | refine Below.drew ?_ | refine Below_then ?_ (by assumption) | refine Below.setCell ?_ (by first | omega | (simp; done) | (simp; omega)) _))) hb1
    have h1 := (h.below hT)
    have HF0 := Lib.hid hF0
    clear hF0 hS hSl hSg ho hb1
    go_wp2_with fail
    clear c0
    go_loopw [14] (fun i wr => ∃ k : Nat, k ≤ 24 ∧ i = .int .i64 k ∧ (∀ (y : Nat) (v : Int), y < k → zs[y]? = some v → rowI v (shP y) = true) ∧ wr.heap[w1.heap.size]? = some (.cells #[.slice A1 24 c1] 32 (0, 0)) ∧ Below w1.heap.size w1 wr) (fun i _ => 24 - (intOf i).toNat)
    case atStart => exact ⟨0, by omega, rfl, fun y v hy => absurd hy (by omega), heap_hit _ _ _ rfl, by (repeat (first | exact Below.refl _ _ | assumption | refine Below_al ?_ _ | refine Below.drew ?_ | refine Below_then ?_ (by assumption) | refine Below.setCell ?_ (by first | omega | (simp; done) | (simp; omega)) _))⟩
    case round =>
      obtain ⟨k, hk, rfl, hall, hB, hb⟩ := hrel
      have HA := Lib.hid hall
      have c0 : wr.cell? ⟨w1.heap.size, 0, none⟩ = some (.slice A1 24 c1) := cell_of hB 0
      have HB := Lib.hid hB
      clear hall hB
      by_cases hlt : k < 24
      · have hd : decide ((k : Int) < 24) = true := by simp; omega
        obtain ⟨v, hv⟩ : ∃ v, zs[k]? = some v := ⟨zs[k]'(by have := HL.out; omega), List.getElem?_eq_getElem _⟩
        have hv63 : v < 2 ^ 63 := HW.out v (List.mem_of_getElem? hv)
        obtain ⟨b, off, rfl, hc1, -⟩ := (h1.below hb).atv hv
        have hsv := HSG.out k hlt
        obtain ⟨s, hs⟩ : ∃ s, s = rowV (shP k) 20 := ⟨_, rfl⟩
        rw [← hs] at hsv
        obtain ⟨b2, off2, rfl, hc2, -⟩ := (hr.below hb).atv hsv
        have HV := Lib.hid hv
        have HS := Lib.hid hs
        have HV63 := Lib.hid hv63
        have i1 : (k : Int) < 24 := by omega
        clear hv hs hsv hv63
        by_cases h0 : 0 ≤ v
        · by_cases hz0 : bits BinOp.andNot IntKind.i64 v s = 0
          · have ht : (bits BinOp.andNot IntKind.i64 v s != 0) = false := by simpa using hz0
            have HZ := Lib.hid hz0
            clear hz0
            go_wp2
            go_roundw
            case rel =>
              refine ⟨k + 1, by omega, by go_num, fun y u hy hu => ?_, HB.out, hb⟩
              by_cases e : y = k
              · subst e
                rw [HV.out] at hu
                injection hu with hu
                subst hu
                have e1 := HZ.out
                rw [HS.out] at e1
                simp [rowI, h0, e1]
              · exact HA.out y u (by omega) hu
            case measure => simp [intOf]; omega
          · have ht : (bits BinOp.andNot IntKind.i64 v s != 0) = true := by simpa using hz0
            go_wp2
            go_ret
            refine ⟨retB (regOk_no hlt HV.out ?_).symm, Below_then hT hb⟩
            rw [← rowI_eq v _ HV63.out]
            rw [HS.out] at hz0
            have e2 : (bits BinOp.andNot IntKind.i64 v (rowV (shP k) 20) == 0) = false := by simpa using hz0
            simp [rowI, e2]
        · have hneg : v < 0 := by omega
          have HN := Lib.hid h0
          go_wp2
          go_ret
          refine ⟨retB (regOk_no hlt HV.out ?_).symm, Below_then hT hb⟩
          rw [← rowI_eq v _ HV63.out]
          have e3 : decide (0 ≤ v) = false := by simpa using HN.out
          simp [rowI, e3]
      · obtain rfl : k = 24 := by omega
        go_wp2
        go_ret
        refine ⟨retB (regOk_yes HL.out fun y v hy hv => ?_).symm, Below_then hT hb⟩
        rw [← rowI_eq v _ (HW.out v (List.mem_of_getElem? hv))]
        exact HA.out y v hy hv
  · have hn : ((zs.length : Int) != 24) = true := by simp; omega
    rw [regOk_len hl]
    clear hl hw
    go_enter Try.func27, Try.ntmps27
    go_wp2
    go_ret
    exact ⟨rfl, by (repeat (first | exact Below.refl _ _ | assumption | refine Below_al ?_ _ | refine Below.drew ?_ | refine Below_then ?_ (by assumption) | refine Below.setCell ?_ (by first | omega | (simp; done) | (simp; omega)) _))⟩
end Go.Proofs.Ytlbggefccgpgaaa
