/- Contracts: regions that are made cell by cell, by the program (a closure decides) and by the reference. -/
import Derived.Test.YtlbggefccgpgaaaRegs
namespace Go.Proofs.Ytlbggefccgpgaaa
open Go.ChangeShapes Go.WideShapes Go.ChangeAt Go.RowKit

theorem make24 (w : World) : (Instr.makeSlice 30 (.int .i64 24) (.int .i64 24)).run Try.prog w = .ok (.slice (some ⟨w.heap.size, 0, none⟩) 24 24) (w.alloc (.cells (ints (List.replicate 24 0)) 3)) := by kernel_rfl
/-- A region being made: its row is block R; the blocks of L stand as they were laid; below the first of the call's own nothing has turned. -/
structure RegSt (w : World) (R : Nat) (L : List (Nat × Obj)) (rows : List Int) (wr : World) : Prop where
  row : wr.heap[R]? = some (.cells (ints rows) 3 (0, 0))
  keep : ∀ p ∈ L, wr.heap[p.1]? = some p.2
  below : Below w.heap.size w wr
theorem RegSt.step {w wr w1 : World} {R : Nat} {L : List (Nat × Obj)} {rows : List Int} (h : RegSt w R L rows wr) (hb : Below wr.heap.size wr w1) : RegSt w R L rows w1 where
  row := (hb.block _ (heap_lt h.row)).trans h.row
  keep := fun p hp => (hb.block _ (heap_lt (h.keep p hp))).trans (h.keep p hp)
  below := Below_then h.below hb
theorem RegSt.grown {w wr w1 : World} {R : Nat} {L : List (Nat × Obj)} {rows rows' : List Int} (h : RegSt w R L rows wr) (hR : w.heap.size ≤ R) (hL : ∀ p ∈ L, p.1 ≠ R) (hg : wr.grownBy w1 (some R)) (hr : w1.heap[R]? = some (.cells (ints rows') 3 (0, 0))) : RegSt w R L rows' w1 where
  row := hr
  keep := fun p hp => (hg.block _ (heap_lt (h.keep p hp)) (by intro e; injection e with e; exact hL p hp e)).trans (h.keep p hp)
  below := h.below.grown hg h.below.size (fun k hk => by injection hk with hk; omega)
theorem RegSt.set {w wr : World} {R : Nat} {L : List (Nat × Obj)} {rows : List Int} (h : RegSt w R L rows wr) (hR : w.heap.size ≤ R) (hL : ∀ p ∈ L, p.1 ≠ R) (k : Nat) (v : Int) : RegSt w R L (rows.set k v) (wr.setCell ⟨R, k, none⟩ (.int .i64 v)) :=
  h.grown hR hL (grownBy_set (World.grownBy.refl _ _) _ _) (by rw [heap_set _ _ _ _ _ _ h.row, set_ints])
theorem RegSt.drew {w wr : World} {R : Nat} {L : List (Nat × Obj)} {rows : List Int} (h : RegSt w R L rows wr) : RegSt w R L rows wr.drew := ⟨h.row, h.keep, h.below.drew⟩
/-- A region in new memory. -/
def RegPost (w : World) (zs : List Int) (e : Ending) (w' : World) : Prop := ToRegPost w 3 zs e w'
def RegOk (w : World) (zs : List Int) (ok : Bool) (e : Ending) (w' : World) : Prop :=
  ∃ v, e = .returned (.tuple #[.agg #[v], .bool ok]) ∧ OwnI w' w.heap.size 3 v zs ∧ Below w.heap.size w w'

set_option maxHeartbeats 1000000 in
theorem regionOf_any (cl : FuncId) (caps : Array Value) (h : Int → Int → Bool) (w : World)
    (hcf : ∀ args w, (callFunc cl args).run Try.prog w = .ok (.enter cl args) w)
    (hcl : ∀ (x y : Int) (w' : World), 0 ≤ x → x ≤ 19 → 0 ≤ y → y ≤ 23 → Below w.heap.size w w' → Calls Try.prog cl (#[.int .i64 x, .int .i64 y] ++ caps) w' fun e w'' => e = .returned (.bool (h x y)) ∧ Below w'.heap.size w' w'') :
    Calls Try.prog 39 #[.func (.func cl) #[] caps] w (RegPost w (regRows h)) := by
  have hmk := make24
  have hcl' := Lib.hid hcl
  clear hcl
  obtain ⟨L, eL⟩ : ∃ L : List (Nat × Obj), L = [(w.heap.size, .cells #[.slice none 0 0] 32 (0, 0)), (w.heap.size + 1 + 1, .cells #[.slice (some ⟨w.heap.size + 1, 0, none⟩) 24 24] 32 (0, 0))] := ⟨_, rfl⟩
  have hL : ∀ p ∈ L, p.1 ≠ w.heap.size + 1 := by rw [eL]; simp
  have mS : (w.heap.size, Obj.cells #[.slice none 0 0] 32 (0, 0)) ∈ L := by rw [eL]; simp
  have mV : (w.heap.size + 1 + 1, Obj.cells #[.slice (some ⟨w.heap.size + 1, 0, none⟩) 24 24] 32 (0, 0)) ∈ L := by rw [eL]; simp
  have EL := Lib.hid eL
  have MS := Lib.hid mS
  have MV := Lib.hid mV
  clear mS mV
  have HL := Lib.hid hL
  clear eL hL
  go_enter Try.func39, Try.ntmps39
  go_wp2_with fail
  go_loopw [8] (fun i wr => ∃ k : Nat, k ≤ 24 ∧ i = .int .i64 k ∧ RegSt w (w.heap.size + 1) L (grid2 (cellF h) k 0) wr) (fun i _ => 24 - (intOf i).toNat)
  case atStart =>
    refine ⟨0, by omega, rfl, ?_⟩
    rw [grid2_zero _ (cellF_zero h)]
    refine ⟨?_, ?_, ?_⟩
    · (repeat (first | rw [heap_hit _ _ _ (by first | omega | (simp; done) | (simp; omega))] | rw [heap_miss _ _ _ (by first | omega | (simp; done) | (simp; omega))]))
      rfl
    · rw [EL.out]
      intro p hp
      simp only [List.mem_cons, List.not_mem_nil, or_false] at hp
      rcases hp with rfl | rfl
      · (repeat (first | rw [heap_hit _ _ _ (by first | omega | (simp; done) | (simp; omega))] | rw [heap_miss _ _ _ (by first | omega | (simp; done) | (simp; omega))]))
      · (repeat (first | rw [heap_hit _ _ _ (by first | omega | (simp; done) | (simp; omega))] | rw [heap_miss _ _ _ (by first | omega | (simp; done) | (simp; omega))]))
    · (repeat (first | exact Below.refl _ _ | assumption | refine Below_al ?_ _ | refine Below.drew ?_ | refine Below_then ?_ (by assumption) | refine Below.setCell ?_ (by first | omega | (simp; done) | (simp; omega)) _))
  case round =>
    obtain ⟨k, hk, rfl, hst⟩ := hrel
    by_cases hlt : k < 24
    · have hd : decide ((k : Int) < 24) = true := by simp; omega
      go_wp2_with fail
      clear hd
      go_loopw [11] (fun i wr => ∃ j : Nat, j ≤ 20 ∧ i = .int .i64 j ∧ RegSt w (w.heap.size + 1) L (grid2 (cellF h) k j) wr) (fun i _ => 20 - (intOf i).toNat)
      case atStart => exact ⟨0, by omega, rfl, hst⟩
      case round =>
        clear hst
        obtain ⟨j, hj, rfl, hst⟩ := hrel
        by_cases hlt2 : j < 20
        · have hd2 : decide ((j : Int) < 20) = true := by simp; omega
          by_cases hin : inSh j k = true
          · go_wp2_with (first | (go_at_call 36; refine (InShield_any _ _ _).mono ?_; rintro e w' ⟨rfl, rfl⟩) | fail)
            refine (hcl'.out j k wr (by omega) (by omega) (by omega) (by omega) hst.below).mono ?_
            rintro e w1 ⟨rfl, hb1⟩
            have hst1 := hst.step hb1
            have c1 : w1.cell? ⟨w.heap.size + 1 + 1, 0, none⟩ = some (.slice (some ⟨w.heap.size + 1, 0, none⟩) 24 24) := cell_of (hst1.keep _ MV.out) 0
            have c2 := frozen_of hst1.row (k : Nat)
            obtain ⟨v, hv⟩ : ∃ v, v = cellF h k j := ⟨_, rfl⟩
            have c3 : w1.cell? ⟨w.heap.size + 1, k, none⟩ = some (.int .i64 v) := by
              rw [ints_cell hst1.row k (by rw [grid2_len]; omega), grid2_get, hv]
            have HV := Lib.hid hv
            clear hv
            by_cases hh : h j k = true
            · go_wp2_with fail
              go_region
              go_wp2
              go_roundw
              case rel =>
                refine ⟨j + 1, by omega, by go_num, ?_⟩
                rw [← grid2_set (cellF h) k j, cellF_yes hin hh, ← HV.out]
                exact (hst1.set (by omega) HL.out k _).drew
              case measure => simp [intOf]; omega
            · go_wp2
              go_roundw
              case rel =>
                refine ⟨j + 1, by omega, by go_num, ?_⟩
                rw [grid2_keep (cellF h) k j (cellF_no2 hh)]
                exact hst1
              case measure => simp [intOf]; omega
          · go_wp2_with (first | (go_at_call 36; refine (InShield_any _ _ _).mono ?_; rintro e w' ⟨rfl, rfl⟩) | fail)
            go_roundw
            case rel =>
              refine ⟨j + 1, by omega, by go_num, ?_⟩
              rw [grid2_keep (cellF h) k j (cellF_no1 hin)]
              exact hst
            case measure => simp [intOf]; omega
        · obtain rfl : j = 20 := by omega
          go_wp2
          go_roundw
          case rel => exact ⟨k + 1, by omega, by go_num, by rw [← grid2_row _ (cellF_zero h)]; exact hst⟩
          case measure => simp [intOf]; omega
    · obtain rfl : k = 24 := by omega
      have c1 : wr.cell? ⟨w.heap.size + 1 + 1, 0, none⟩ = some (.slice (some ⟨w.heap.size + 1, 0, none⟩) 24 24) := cell_of (hst.keep _ MV.out) 0
      have c2 := frozen_of (hst.keep _ MS.out) 0
      have c3 : wr.cell? ⟨w.heap.size, 0, none⟩ = some (.slice none 0 0) := cell_of (hst.keep _ MS.out) 0
      go_wp2
      refine bodyPost_ret (v := .agg #[.slice (some ⟨w.heap.size + 1, 0, none⟩) 24 24]) (by simp [results, Try.results39, go_sem, c3]) rfl ⟨_, rfl, ?_, ?_⟩
      · have hr := hst.row
        rw [grid2_all] at hr
        have ho := OwnI.blk (B := w.heap.size + 1) (zs := regRows h) hr (Nat.le_refl _) (by simp [regRows_len, maxLen])
        rw [regRows_len] at ho
        exact OwnI.base (ownsRow_setCell_below (a := ⟨w.heap.size, 0, none⟩) ho (by simp) _) (by omega)
      · exact hst.below.setCell (Nat.le_refl _) _
end Go.Proofs.Ytlbggefccgpgaaa
