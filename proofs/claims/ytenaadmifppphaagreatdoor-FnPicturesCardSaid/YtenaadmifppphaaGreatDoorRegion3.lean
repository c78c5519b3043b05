/- Contracts: regions that the reference makes cell by cell. -/
import Derived.Test.YtenaadmifppphaaGreatDoorRegion2
import Derived.Test.YtenaadmifppphaaGreatDoorParts3
namespace Go.Proofs.YtenaadmifppphaaGreatDoor
open Go.ChangeShapes Go.WideShapes Go.ChangeAt Go.RowKit

set_option maxHeartbeats 2000000 in
theorem specOrdinaryCells_yes (o : Int) (w : World) (hd0 : 0 ≤ o) (hd7 : o ≤ 7) :
    Calls Tryz.prog 48 #[.int .i64 o] w (RegOk w (regRows (fun x y => l9O o x y)) true) := by
  obtain ⟨h, eh⟩ : ∃ h : Int → Int → Bool, h = (fun x y => l9O o x y) := ⟨_, rfl⟩
  rw [← eh]
  have EH := Lib.hid eh
  clear eh
  go_enter Tryz.func48, Tryz.ntmps48
  go_wp2_with (first | (go_at_call 52; refine (l1In_any _ _ _ _).mono ?_; rintro e w' ⟨rfl, rfl⟩) | (go_at_call 75; refine (l3Line_any _ _).mono ?_; rintro e w' ⟨rfl, rfl⟩) | fail)
  refine (l9Empty_any _).mono ?_
  rintro e w1 ⟨g, rfl, hg, hrow, hb1⟩
  obtain ⟨hc1, hf1⟩ := bcell hb1
  have hz1 := hb1.size
  simp only [World.size_alloc] at hz1 hg
  have hgl := heap_lt hrow
  go_wp2_with fail
  clear hc1 hf1
  obtain ⟨V, eV⟩ : ∃ V, V = w1.heap.size := ⟨_, rfl⟩
  rw [← eV]
  obtain ⟨L, eL⟩ : ∃ L : List (Nat × Obj), L = [(w.heap.size, Obj.cells #[.slice none 0 0] 62 (0, 0)), (V, Obj.cells #[.slice (some ⟨g, 0, none⟩) 24 24] 62 (0, 0))] := ⟨_, rfl⟩
  have hL : ∀ p ∈ L, p.1 ≠ g := by
    rw [eL]
    intro p hp
    simp only [List.mem_cons, List.not_mem_nil, or_false] at hp
    rcases hp with rfl | rfl
    all_goals (show _ ≠ g; omega)
  have mS : (w.heap.size, Obj.cells #[.slice none 0 0] 62 (0, 0)) ∈ L := by rw [eL]; simp
  have mV : (V, Obj.cells #[.slice (some ⟨g, 0, none⟩) 24 24] 62 (0, 0)) ∈ L := by rw [eL]; simp
  have HL := Lib.hid hL
  have MS := Lib.hid mS
  have MV := Lib.hid mV
  clear hL mS mV
  have h0 : RegSt w g L (grid2 (cellF h) 0 0) (w1.alloc (.cells #[.slice (some ⟨g, 0, none⟩) 24 24] 62)) := by
    rw [grid2_zero _ (cellF_zero h)]
    refine ⟨?_, ?_, ?_⟩
    · rw [heap_miss _ _ _ (by omega), hrow]
    · rw [eL]
      intro p hp
      simp only [List.mem_cons, List.not_mem_nil, or_false] at hp
      rcases hp with rfl | rfl
      all_goals (try dsimp only)
      all_goals first | (rw [eV]; exact heap_hit _ _ _ rfl) | (rw [heap_miss _ _ _ (by omega), hb1.block _ (by first | omega | (simp; done) | (simp; omega))]; (repeat (first | rw [heap_hit _ _ _ (by first | omega | (simp; done) | (simp; omega))] | rw [heap_miss _ _ _ (by first | omega | (simp; done) | (simp; omega))])))
    · exact Below_al (Below_then (by (repeat (first | exact Below.refl _ _ | assumption | refine Below_al ?_ _ | refine Below.drew ?_ | refine Below_then ?_ (by assumption) | refine Below.setCell ?_ (by first | omega | (simp; done) | (simp; omega)) _))) hb1) _
  have hgw : w.heap.size ≤ g := by omega
  have hVg : V ≠ g := by omega
  have H0 := Lib.hid h0
  clear h0 eL hrow hb1 hz1 hg hgl eV
  go_loopw [5] (fun i wr => ∃ k : Nat, k ≤ 24 ∧ i = .int .i64 k ∧ RegSt w g L (grid2 (cellF h) k 0) wr) (fun i _ => 24 - (intOf i).toNat)
  case atStart => exact ⟨0, by omega, rfl, H0.out⟩
  case round =>
    clear H0
    obtain ⟨k, hk, rfl, hst⟩ := hrel
    by_cases hlt : k < 24
    · have hd : decide ((k : Int) < 24) = true := by simp; omega
      go_wp2_with fail
      clear hd
      go_loopw [6] (fun i wr => ∃ j : Nat, j ≤ 20 ∧ i = .int .i64 j ∧ RegSt w g L (grid2 (cellF h) k j) wr) (fun i _ => 20 - (intOf i).toNat)
      case atStart => exact ⟨0, by omega, rfl, hst⟩
      case round =>
        clear hst
        obtain ⟨j, hj, rfl, hst⟩ := hrel
        by_cases hlt2 : j < 20
        · have hd2 : decide ((j : Int) < 20) = true := by simp; omega
          have fin : ∀ (wq : World), RegSt w g L (grid2 (cellF h) k j) wq → (wq.cell? ⟨V, 0, none⟩ = some (.slice (some ⟨g, 0, none⟩) 24 24)) ∧ ∃ v, wq.heap[g]? = some (.cells (ints (grid2 (cellF h) k j)) 3 (0, 0)) ∧ (grid2 (cellF h) k j)[k]? = some v ∧ v = cellF h k j := fun wq hq =>
            ⟨cell_of (hq.keep _ MV.out) 0, cellF h k j, hq.row, by rw [List.getElem?_eq_getElem (by rw [grid2_len]; omega), grid2_get], rfl⟩
          have FIN := Lib.hid fin
          clear fin
          obtain ⟨z, hz⟩ : ∃ z, z = l9O o j k := ⟨_, rfl⟩
          have K := fun w => l9Ord_any o j k hd0 hd7 (by omega) (by omega) (by omega) (by omega) w
          rw [← hz] at K
          have HZ := Lib.hid hz
          have K' := Lib.hid K
          clear hz K
          go_wp2_with fail
          refine (K'.out _).mono ?_
          rintro e w2 ⟨rfl, rfl⟩
          have hst2 := hst
          by_cases hh : h j k = true
          · have HH := Lib.hid hh
            have ht : z = true := by
              have := HH.out
              rw [EH.out] at this
              rw [HZ.out]
              simpa using this
            clear hh
            obtain ⟨c1, v, r1, r2, r3⟩ := FIN.out _ hst2
            have R1 := Lib.hid r1
            have R2 := Lib.hid r2
            have R3 := Lib.hid r3
            clear r1 r2 r3
            by_cases hin : inSh j k = true
            · go_wp2_with fail
              refine (l9Add_yes g j k (grid2 (cellF h) k j) v _ hin hlt2 hlt R1.out (grid2_len _ _ _) R2.out).mono ?_
              rintro e w3 ⟨rfl, hr3, hg3⟩
              go_wp2
              go_roundw
              case rel =>
                refine ⟨j + 1, by omega, by go_num, ?_⟩
                rw [R3.out, ← cellF_yes hin HH.out, grid2_set] at hr3
                exact hst2.grown hgw HL.out hg3 hr3
              case measure => simp [intOf]; omega
            · go_wp2_with fail
              refine (l9Add_no g j k _ hin).mono ?_
              rintro e w3 ⟨rfl, hb3⟩
              go_wp2
              go_roundw
              case rel =>
                refine ⟨j + 1, by omega, by go_num, ?_⟩
                rw [grid2_keep (cellF h) k j (cellF_no1 hin)]
                exact hst2.step hb3
              case measure => simp [intOf]; omega
          · have HH := Lib.hid hh
            have ht : z = false := by
              have := HH.out
              rw [EH.out] at this
              rw [HZ.out]
              simpa using this
            go_wp2
            go_roundw
            case rel =>
              refine ⟨j + 1, by omega, by go_num, ?_⟩
              rw [grid2_keep (cellF h) k j (cellF_no2 HH.out)]
              exact hst2
            case measure => simp [intOf]; omega
        · obtain rfl : j = 20 := by omega
          go_wp2
          go_roundw
          case rel => exact ⟨k + 1, by omega, by go_num, by rw [← grid2_row _ (cellF_zero h)]; exact hst⟩
          case measure => simp [intOf]; omega
    · obtain rfl : k = 24 := by omega
      have c1 : wr.cell? ⟨V, 0, none⟩ = some (.slice (some ⟨g, 0, none⟩) 24 24) := cell_of (hst.keep _ MV.out) 0
      have c2 := frozen_of (hst.keep _ MS.out) 0
      have c3 : wr.cell? ⟨w.heap.size, 0, none⟩ = some (.slice none 0 0) := cell_of (hst.keep _ MS.out) 0
      have hSg : w.heap.size ≠ g := HL.out _ MS.out
      go_wp2
      refine bodyPost_ret (v := .tuple #[.agg #[.slice (some ⟨g, 0, none⟩) 24 24], .bool true]) (by simp [results, Tryz.results48, go_sem, c3]) rfl ⟨_, rfl, ?_, ?_⟩
      · have hr := hst.row
        rw [grid2_all] at hr
        have ho := OwnI.blk (B := g) (zs := regRows h) hr (Nat.le_refl _) (by simp [regRows_len, maxLen])
        rw [regRows_len] at ho
        exact OwnI.base (World.ownsRow.kept ho (grownBy_set (World.grownBy.refl _ (some (w.heap.size))) 0 _) (.inr (by simp only [Value.ownBlock, ne_eq, Option.some.injEq]; omega))) hgw
      · exact hst.below.setCell (by simp) _
end Go.Proofs.YtenaadmifppphaaGreatDoor
