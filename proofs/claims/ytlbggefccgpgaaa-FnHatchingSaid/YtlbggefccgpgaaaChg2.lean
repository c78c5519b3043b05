/- Contracts: ChangedCells of the reference. -/
import Derived.Test.YtlbggefccgpgaaaChg
import Derived.Test.YtlbggefccgpgaaaRegion2
namespace Go.Proofs.Ytlbggefccgpgaaa
open Go.ChangeShapes Go.WideShapes Go.ChangeAt Go.RowKit
set_option linter.unusedVariables false
theorem RegSt.drewN {w wr : World} {R : Nat} {L : List (Nat × Obj)} {rows : List Int} (h : RegSt w R L rows wr) (n : Nat) : RegSt w R L rows (wr.drewN n) := ⟨h.row, h.keep, Below_drewN' h.below n⟩
set_option maxHeartbeats 4000000 in
theorem specChangedCells_any (A A2 : Option Addr) (c c2 : Nat) (xs ys : List (List Int)) (w : World) (h1 : RdG w A xs) (h2 : RdG w A2 ys) (s1 : Small xs) (s2 : Small ys) :
    Calls Try.prog 15 #[.slice A xs.length c, .slice A2 ys.length c2] w (RegOk w (chgR xs ys) (chgOk xs ys)) := by
  have K1 := fun w' (hb : Below w.heap.size w w') => l13Good_any A c xs w' (h1.below hb) s1
  have K2 := fun w' (hb : Below w.heap.size w w') => l13Good_any A2 c2 ys w' (h2.below hb) s2
  cases g1 : picOk xs
  · rw [show chgOk xs ys = false from by simp [chgOk, g1], show chgR xs ys = [] from by simp [chgR, chgOk, g1]]
    rw [g1] at K1
    have K1' := Lib.hid K1
    clear K1 K2 g1 s1 s2 h1 h2
    go_enter Try.func15, Try.ntmps15
    go_wp2_with fail
    refine (K1'.out _ (by (repeat (first | exact Below.refl _ _ | assumption | refine Below_al ?_ _ | refine Below.drew ?_ | refine Below_then ?_ (by assumption) | refine Below.setCell ?_ (by first | omega | (simp; done) | (simp; omega)) _)))).mono ?_
    rintro e w1 ⟨rfl, hb1⟩
    have hS : w1.heap[w.heap.size]? = some (.cells #[.slice none 0 0] 32 (0, 0)) := heap_keepB (heap_hit _ _ _ rfl) hb1
    have q1 : w1.cell? ⟨w.heap.size, 0, none⟩ = some (.slice none 0 0) := cell_of hS 0
    have q2 := frozen_of hS 0
    have hT := Below_then (show Below w.heap.size w _ by (repeat (first | exact Below.refl _ _ | assumption | refine Below_al ?_ _ | refine Below.drew ?_ | refine Below_then ?_ (by assumption) | refine Below.setCell ?_ (by first | omega | (simp; done) | (simp; omega)) _))) hb1
    clear hS hb1
    go_wp2
    exact bodyPost_ret (v := .tuple #[.agg #[.slice none 0 0], .bool false]) (by simp [results, Try.results15, go_sem, q1]) rfl ⟨_, rfl, OwnI.nil _ _ _, hT.setCell (Nat.le_refl _) _⟩
  · cases g2 : picOk ys
    · rw [show chgOk xs ys = false from by simp [chgOk, g2], show chgR xs ys = [] from by simp [chgR, chgOk, g2]]
      rw [g1] at K1
      rw [g2] at K2
      have K1' := Lib.hid K1
      have K2' := Lib.hid K2
      clear K1 K2 g1 g2 s1 s2 h1 h2
      go_enter Try.func15, Try.ntmps15
      go_wp2_with fail
      refine (K1'.out _ (by (repeat (first | exact Below.refl _ _ | assumption | refine Below_al ?_ _ | refine Below.drew ?_ | refine Below_then ?_ (by assumption) | refine Below.setCell ?_ (by first | omega | (simp; done) | (simp; omega)) _)))).mono ?_
      rintro e w1 ⟨rfl, hb1⟩
      have hS : w1.heap[w.heap.size]? = some (.cells #[.slice none 0 0] 32 (0, 0)) := heap_keepB (heap_hit _ _ _ rfl) hb1
      have hT := Below_then (show Below w.heap.size w _ by (repeat (first | exact Below.refl _ _ | assumption | refine Below_al ?_ _ | refine Below.drew ?_ | refine Below_then ?_ (by assumption) | refine Below.setCell ?_ (by first | omega | (simp; done) | (simp; omega)) _))) hb1
      clear hb1
      have HS := Lib.hid hS
      clear hS
      go_wp2_with fail
      refine (K2'.out _ hT).mono ?_
      rintro e w2 ⟨rfl, hb2⟩
      have hS := heap_keepB HS.out hb2
      have q1 : w2.cell? ⟨w.heap.size, 0, none⟩ = some (.slice none 0 0) := cell_of hS 0
      have q2 := frozen_of hS 0
      have hT := Below_then hT hb2
      clear hS hb2
      go_wp2
      exact bodyPost_ret (v := .tuple #[.agg #[.slice none 0 0], .bool false]) (by simp [results, Try.results15, go_sem, q1]) rfl ⟨_, rfl, OwnI.nil _ _ _, hT.setCell (Nat.le_refl _) _⟩
    · rw [show chgOk xs ys = true from by simp [chgOk, g1, g2], show chgR xs ys = regRows (chgF xs ys) from by simp [chgR, chgOk, g1, g2]]
      have l1 := picOk_24 g1
      have l2 := picOk_24 g2
      have G1 := Lib.hid g1
      have G2 := Lib.hid g2
      rw [g1] at K1
      rw [g2] at K2
      rw [l1] at K1 ⊢
      rw [l2] at K2 ⊢
      have K1' := Lib.hid K1
      have K2' := Lib.hid K2
      clear K1 K2 g1 g2 s1 s2 l1 l2
      go_enter Try.func15, Try.ntmps15
      go_wp2_with fail
      refine (K1'.out _ (by (repeat (first | exact Below.refl _ _ | assumption | refine Below_al ?_ _ | refine Below.drew ?_ | refine Below_then ?_ (by assumption) | refine Below.setCell ?_ (by first | omega | (simp; done) | (simp; omega)) _)))).mono ?_
      rintro e w1 ⟨rfl, hb1⟩
      have HS := Lib.hid (show w1.heap[w.heap.size]? = some (.cells #[.slice none 0 0] 32 (0, 0)) from heap_keepB (heap_hit _ _ _ rfl) hb1)
      have hT := Below_then (show Below w.heap.size w _ by (repeat (first | exact Below.refl _ _ | assumption | refine Below_al ?_ _ | refine Below.drew ?_ | refine Below_then ?_ (by assumption) | refine Below.setCell ?_ (by first | omega | (simp; done) | (simp; omega)) _))) hb1
      clear hb1
      go_wp2_with fail
      refine (K2'.out _ hT).mono ?_
      rintro e w2 ⟨rfl, hb2⟩
      have HS := Lib.hid (heap_keepB HS.out hb2)
      have hT := Below_then hT hb2
      clear hb2
      go_wp2_with fail
      refine (l9Empty_any _).mono ?_
      rintro e w3 ⟨g, rfl, hg, hrow, hb3⟩
      have hlS := heap_lt HS.out
      have hgl := heap_lt hrow
      have HS := Lib.hid (heap_keepB HS.out hb3)
      have hT := Below_then hT hb3
      have HG := Lib.hid hrow
      clear hb3 hrow
      obtain ⟨L, eL⟩ : ∃ L : List (Nat × Obj), L = [(w.heap.size, .cells #[.slice none 0 0] 32 (0, 0)), (w3.heap.size, .cells #[.slice (some ⟨g, 0, none⟩) 24 24] 32 (0, 0))] := ⟨_, rfl⟩
      have hL : ∀ p ∈ L, p.1 ≠ g := by
        rw [eL]
        intro p hp
        simp only [List.mem_cons, List.not_mem_nil, or_false] at hp
        rcases hp with rfl | rfl
        all_goals (show _ ≠ g; omega)
      have mS : (w.heap.size, Obj.cells #[.slice none 0 0] 32 (0, 0)) ∈ L := by rw [eL]; simp
      have mV : (w3.heap.size, Obj.cells #[.slice (some ⟨g, 0, none⟩) 24 24] 32 (0, 0)) ∈ L := by rw [eL]; simp
      have h0 : RegSt w g L (grid2 (cellF (chgF xs ys)) 0 0) (w3.alloc (.cells #[.slice (some ⟨g, 0, none⟩) 24 24] 32)) := by
        rw [grid2_zero _ (cellF_zero _)]
        refine ⟨heap_keepA HG.out _, ?_, Below_al hT _⟩
        rw [eL]
        intro p hp
        simp only [List.mem_cons, List.not_mem_nil, or_false] at hp
        rcases hp with rfl | rfl
        · exact heap_keepA HS.out _
        · exact heap_hit _ _ _ rfl
      have hgw : w.heap.size ≤ g := by omega
      have HL := Lib.hid hL
      have MS := Lib.hid mS
      have MV := Lib.hid mV
      have H0 := Lib.hid h0
      clear hL mS mV h0 eL HS HG hgl hlS hg hT
      go_wp2_with fail
      go_loopw [7] (fun i wr => ∃ k : Nat, k ≤ 24 ∧ i = .int .i64 k ∧ RegSt w g L (grid2 (cellF (chgF xs ys)) k 0) wr) (fun i _ => 24 - (intOf i).toNat)
      case atStart => exact ⟨0, by omega, rfl, H0.out⟩
      case round =>
        clear H0
        obtain ⟨k, hk, rfl, hst⟩ := hrel
        by_cases hlt : k < 24
        · have hd : decide ((k : Int) < 24) = true := by simp; omega
          go_wp2_with fail
          clear hd
          go_loopw [8] (fun i wr => ∃ j : Nat, j ≤ 20 ∧ i = .int .i64 j ∧ RegSt w g L (grid2 (cellF (chgF xs ys)) k j) wr) (fun i _ => 20 - (intOf i).toNat)
          case atStart => exact ⟨0, by omega, rfl, hst⟩
          case round =>
            clear hst
            obtain ⟨j, hj, rfl, hst⟩ := hrel
            by_cases hlt2 : j < 20
            · have hd2 : decide ((j : Int) < 20) = true := by simp; omega
              have i1 : (k : Int) < 24 := by omega
              have i2 : (j : Int) < 20 := by omega
              obtain ⟨b, off, d, of2, c5, rfl, e1, e2⟩ := cell_in (h1.below hst.below) G1.out (y := k) (x := j) (by omega) (by omega)
              obtain ⟨b', off', d', of2', c6, rfl, e3, e4⟩ := cell_in (h2.below hst.below) G2.out (y := k) (x := j) (by omega) (by omega)
              have hch : chgF xs ys j k = (vAt xs k j != vAt ys k j) := by unfold chgF; rw [Int.toNat_natCast, Int.toNat_natCast]
              have HCH := Lib.hid hch
              generalize hu : vAt xs k j = u at *
              generalize hv : vAt ys k j = v at *
              clear hu hv hch
              have HH1 := Lib.hid h1
              have HH2 := Lib.hid h2
              clear h1 h2
              cases hz : (u != v)
              · have HZ := Lib.hid hz
                go_wp2_with fail
                go_quiet (fail)
                go_wp2
                go_roundw
                case rel =>
                  refine ⟨j + 1, by omega, by go_num, ?_⟩
                  rw [grid2_keep _ k j (cellF_no2 (by rw [HCH.out, HZ.out]; simp))]
                  exact hst.drewN _
                case measure => simp [intOf]; omega
              · have HZ := Lib.hid hz
                go_wp2_with fail
                go_quiet (fail)
                have hst2 := hst.drewN nq
                have c1 := cell_of (hst2.keep _ MV.out) 0
                by_cases hin : inSh j k = true
                · have hr2 := hst2.row
                  have HR2 := Lib.hid hr2
                  clear hr2
                  go_wp2_with fail
                  refine (l9Add_yes g j k (grid2 (cellF (chgF xs ys)) k j) (cellF (chgF xs ys) k j) _ hin hlt2 hlt HR2.out (grid2_len _ _ _) (by rw [List.getElem?_eq_getElem (by rw [grid2_len]; omega), grid2_get])).mono ?_
                  rintro e w4 ⟨rfl, hr3, hg3⟩
                  have HR3 := Lib.hid hr3
                  have HG3 := Lib.hid hg3
                  clear hr3 hg3
                  go_wp2
                  go_roundw
                  case rel =>
                    refine ⟨j + 1, by omega, by go_num, ?_⟩
                    have hr3 := HR3.out
                    rw [← cellF_yes hin (HCH.out.trans HZ.out), grid2_set] at hr3
                    exact hst2.grown hgw HL.out HG3.out hr3
                  case measure => simp [intOf]; omega
                · go_wp2_with fail
                  refine (l9Add_no g j k _ hin).mono ?_
                  rintro e w4 ⟨rfl, hb4⟩
                  go_wp2
                  go_roundw
                  case rel =>
                    refine ⟨j + 1, by omega, by go_num, ?_⟩
                    rw [grid2_keep _ k j (cellF_no1 hin)]
                    exact hst2.step hb4
                  case measure => simp [intOf]; omega
            · obtain rfl : j = 20 := by omega
              go_wp2
              go_roundw
              case rel => exact ⟨k + 1, by omega, by go_num, by rw [← grid2_row _ (cellF_zero _)]; exact hst⟩
              case measure => simp [intOf]; omega
        · obtain rfl : k = 24 := by omega
          have c1 := cell_of (hst.keep _ MV.out) 0
          have c2 := frozen_of (hst.keep _ MS.out) 0
          have c3 := cell_of (hst.keep _ MS.out) 0
          go_wp2
          refine bodyPost_ret (v := .tuple #[.agg #[.slice (some ⟨g, 0, none⟩) 24 24], .bool true]) (by simp [results, Try.results15, go_sem, c3]) rfl ⟨_, rfl, ?_, ?_⟩
          · have hr := hst.row
            rw [grid2_all] at hr
            have ho := OwnI.blk (B := g) (zs := regRows (chgF xs ys)) hr (Nat.le_refl _) (by simp [regRows_len, maxLen])
            rw [regRows_len] at ho
            have hne : w.heap.size ≠ g := HL.out _ MS.out
            exact OwnI.base (ownsRow_setCell_below (a := ⟨w.heap.size, 0, none⟩) ho (show w.heap.size < g by omega) _) hgw
          · exact hst.below.setCell (Nat.le_refl _) _
end Go.Proofs.Ytlbggefccgpgaaa
