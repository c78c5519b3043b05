/- Contracts: Clusters of the reference. -/
import Derived.Test.YtjodoljgpdbimaaClusM
import Derived.Deep.RegionHeld3
namespace Go.Proofs.Ytjodoljgpdbimaa
open Go.ChangeShapes Go.WideShapes Go.ChangeAt Go.RowKit
set_option linter.unusedVariables false
set_option linter.unusedSimpArgs false
theorem OwnI.drew {w : World} {B : Nat} {T : TypeId} {v : Value} {zs : List Int} (h : OwnI w B T v zs) : OwnI w.drew B T v zs := h.below (Below.refl _ _).drew
theorem OwnI.rdv {w : World} {B c n : Nat} {T : TypeId} {A : Option Addr} {zs : List Int} (h : OwnI w B T (.slice A n c) zs) : RdI w A zs := by
  obtain ⟨A', c', e, hr⟩ := h.form
  injection e with e1 e2 e3
  rw [e1]
  exact hr
set_option maxHeartbeats 8000000 in
set_option maxRecDepth 20000 in
theorem specClusters_yes (A : Option Addr) (c : Nat) (rows : List ArmsD) (lim : Int) (w : World) (h : RdR 15 w A (acs rows)) (hl : rows.length ≤ 1048576) (ho : listOk 16 rows = true) (hlim : 0 ≤ lim ∧ lim ≤ 10) :
    Calls Try.prog 10 #[.slice A rows.length c, .int .i64 lim] w (GridOk w (clR rows lim rows.length) true) := by
  have KL := fun (w' : World) (hb : Below w.heap.size w w') => l15List_any A c rows w' (h.below hb) hl
  rw [ho] at KL
  have KL' := Lib.hid KL
  have KI := fun w => l1In_any lim 0 10 w
  rw [decide_eq_true hlim] at KI
  have KI' := Lib.hid KI
  have HO := Lib.hid ho
  have HH := Lib.hid h
  have h16 := listOk_le ho
  clear KL KI ho h hlim
  go_enter Try.func10, Try.ntmps10
  go_wp2_with fail
  refine (KL'.out _ (by (repeat (first | exact Below.refl _ _ | assumption | refine Below_al ?_ _ | refine Below.drew ?_ | refine Below_then ?_ (by assumption) | refine Below.setCell ?_ (by first | omega | (simp; done) | (simp; omega)) _)))).mono ?_
  rintro e w1 ⟨rfl, hb1⟩
  have hT1 : Below w.heap.size w w1 := by (repeat (first | exact Below.refl _ _ | assumption | refine Below_al ?_ _ | refine Below.drew ?_ | refine Below_then ?_ (by assumption) | refine Below.setCell ?_ (by first | omega | (simp; done) | (simp; omega)) _))
  have hG1 : GG w1 w.heap.size (.slice (some ⟨w.heap.size, 0, none⟩) 0 0) [] [] := (GG.none0 w w.heap.size w.heap.size rfl (Nat.le_refl _)).below hb1
  have hs1 : w.heap.size < w1.heap.size := by have := hb1.size; simp at this; omega
  clear hb1
  go_wp2_with (go_at_call 31; refine (KI'.out _).mono ?_; rintro e wq ⟨rfl, rfl⟩)
  have hG := hG1.below (Below_al (Below.refl _ _) (.cells #[] 3))
  have hU : OwnI (w1.alloc (.cells #[] 3)) w.heap.size 3 (.slice (some ⟨w1.heap.size, 0, none⟩) 0 0) [] := OwnI.noneT w1 _ _ rfl (by omega)
  have hAP : Ap (.slice (some ⟨w1.heap.size, 0, none⟩) 0 0) (.slice (some ⟨w.heap.size, 0, none⟩) 0 0) [] := ⟨.inr (by simp [Value.ownBlock]; omega), fun i u hu => by simp at hu⟩
  have hT := Below_al hT1 (.cells #[] 3)
  clear hG1 hT1
  go_loopw [6, 7, 8] (fun o s i wr => ∃ (k : Nat) (v : Value) (vs : List Value) (us : Value), k ≤ rows.length ∧ i = .int .i64 k ∧ o = v ∧ s = us ∧ GG wr w.heap.size v (clR rows lim k) vs ∧ OwnI wr w.heap.size 3 us (clS rows lim k) ∧ Ap us v vs ∧ Below w.heap.size w wr) (fun _ _ i _ => rows.length - (intOf i).toNat)
  case atStart => exact ⟨0, _, [], _, Nat.zero_le _, rfl, rfl, rfl, hG, hU, hAP, hT⟩
  case round =>
    clear hG hU hAP hT hs1
    obtain ⟨k, v, vs, us, hk, rfl, hov, hsu, hG, hU, hAP, hb⟩ := hrel
    replace hov := hov.symm
    subst hov
    replace hsu := hsu.symm
    subst hsu
    have HAP := Lib.hid hAP
    clear hAP
    by_cases hlt : k < rows.length
    · have i1 : (k : Int) < (rows.length : Int) := by omega
      have d1 : decide (k < rows.length) = true := by simpa using hlt
      have HK := Lib.hid hlt
      obtain ⟨Au, cu, rfl, hru⟩ := hU.form
      have KH := Lib.hid (fun w (h : RdI w Au (clS rows lim k)) => l1Has_any Au cu (clS rows lim k) (k : Int) w h (by have := clS_len rows lim k hk; have : k * rows.length ≤ 16 * 16 := Nat.mul_le_mul (by omega) h16; omega))
      cases hm : decide ((k : Int) ∈ clS rows lim k)
      · rw [hm] at KH
        have hni : k ∉ (clC rows lim k).2 := fun h => of_decide_eq_false hm ((clS_mem rows lim k k).2 h)
        have HNI := Lib.hid hni
        clear hm
        obtain ⟨us, hus⟩ : ∃ us, us = Value.slice Au (clS rows lim k).length cu := ⟨_, rfl⟩
        go_wp2_with fail
        refine (KH.out _ hru).mono ?_
        rintro e w2 ⟨rfl, hww⟩
        replace hww := hww.symm
        subst hww
        have hO0 : OwnI (wr.alloc (.cells #[.int .i64 (k : Int)] 3)) wr.heap.size 3 (.slice (some ⟨wr.heap.size, 0, none⟩) 1 1) (natI [k]) := OwnI.blk (zs := natI [k]) (heap_hit _ _ _ rfl) (Nat.le_refl _) (by simp [maxLen, natI])
        rw [← hus] at hU HAP
        go_wp2_with fail
        rw [← hus]
        obtain ⟨W0, hW0⟩ : ∃ W0, W0 = wr := ⟨_, rfl⟩
        obtain ⟨D, hD⟩ : ∃ D, D = wr.heap.size := ⟨_, rfl⟩
        have hL0 : Below D W0 (wr.alloc (.cells #[.int .i64 (k : Int)] 3)) := by rw [hD, hW0]; exact Below_al (Below.refl wr.heap.size wr) _
        have hGB : ∀ w', Below D W0 w' → GG w' w.heap.size v (clR rows lim k) vs ∧ OwnI w' w.heap.size 3 us (clS rows lim k) ∧ Below w.heap.size w w' := fun w' hb' => by rw [hD, hW0] at hb'; exact ⟨hG.below hb', hU.below hb', Below_then hb hb'⟩
        have hGV : ∀ b, v.ownBlock = some b → b < D := fun b hb' => by rw [hD]; exact (hG.outer b hb').2
        have hGU : ∀ (i : Nat) (u : Value), vs[i]? = some u → ∀ b, u.ownBlock = some b → b < D := fun i u hu b hb' => by rw [hD]; exact (hG.hi i u hu b hb').2
        have hUB : ∀ b, us.ownBlock = some b → b < D := fun b hb' => by rw [hD]; exact (hU.lt b hb').2
        have hrow : ∀ w', Below D W0 w' → RdR 15 w' A (acs rows) := fun w' hb' => HH.out.below (hGB w' hb').2.2
        have hws := hb.size
        have hgp0 := gp_start rows lim (S := []) hlt (by simp)
        rw [← hD] at hO0 hws
        have hDW : D = W0.heap.size := by rw [hD, hW0]
        have HDW := Lib.hid (Nat.le_of_eq hDW)
        have HGB := Lib.hid hGB
        have HGV := Lib.hid hGV
        have HGU := Lib.hid hGU
        have HUB := Lib.hid hUB
        have HROW := Lib.hid hrow
        rw [← hD]
        clear hD hW0 hGB hGV hGU hUB hrow hDW hG hU hb hru hus KH hni hlt
        go_loopw [9, 10] (fun u i wi => ∃ (q : Nat) (g : List Nat) (u' : Value), q ≤ g.length ∧ i = .int .i64 q ∧ u = u' ∧ Gp rows lim [] g q ∧ bfs rows.length (nearR rows lim) [] (rows.length - q) q g = grpL rows lim k ∧ OwnI wi D 3 u' (natI g) ∧ Below D W0 wi) (fun _ i _ => rows.length - (intOf i).toNat)
        case atStart => exact ⟨0, [k], _, Nat.zero_le _, rfl, rfl, hgp0, rfl, hO0, hL0⟩
        case round =>
          clear hO0 hL0 hgp0
          obtain ⟨q, g, u, hq, rfl, hou, hgp, hbf, hO, hL⟩ := hrel
          replace hou := hou.symm
          subst hou
          have hgn := hgp.len
          have hgl : (natI g).length ≤ 16 := by rw [natI_len]; omega
          by_cases hlt2 : q < (natI g).length
          · have i2 : (q : Int) < ((natI g).length : Int) := by omega
            have d2 : decide (q < (natI g).length) = true := by simpa using hlt2
            have hqg : q < g.length := by rw [natI_len] at hlt2; exact hlt2
            obtain ⟨x, hx⟩ : ∃ x, g[q]? = some x := ⟨_, List.getElem?_eq_getElem hqg⟩
            have hxl : x < rows.length := hgp.lt x (List.mem_of_getElem? hx)
            have hqn : q < rows.length := by omega
            obtain ⟨ax, hax⟩ := arms_at hxl
            have HST := Lib.hid (bfs_step rows lim hgp hx hbf)
            have hGL : ∀ j, j < rows.length → (sw rows lim [] x j g).length ≤ rows.length := fun j hj => by
              refine nodup_le rows.length _ (sweep_nodup _ _ _ _ _ hgp.nd) fun y hy => ?_
              rcases sweep_sub _ _ _ _ _ _ hy with h | h
              · exact hgp.lt y h
              · omega
            have HGL := Lib.hid hGL
            have HX := Lib.hid hx
            have HXL := Lib.hid hxl
            have HAX := Lib.hid hax
            obtain ⟨A2, c2, rfl, -⟩ := hO.form
            clear hGL hx hxl hax hgp hbf hqg hgn hgl
            go_wp2_with fail
            go_loopw [9, 11] (fun u i wi => ∃ (j : Nat) (u' : Value), j ≤ rows.length ∧ i = .int .i64 j ∧ u = u' ∧ OwnI wi D 3 u' (natI (sw rows lim [] x j g)) ∧ Below D W0 wi) (fun _ i _ => rows.length - (intOf i).toNat)
            case atStart => exact ⟨0, _, Nat.zero_le _, rfl, rfl, hO, hL⟩
            case round =>
              clear hO hL
              obtain ⟨j, u, hj, rfl, hou, hO, hL⟩ := hrel
              replace hou := hou.symm
              subst hou
              by_cases hlt3 : j < rows.length
              · have i3 : (j : Int) < (rows.length : Int) := by omega
                have d3 : decide (j < rows.length) = true := by simpa using hlt3
                obtain ⟨aj, haj⟩ := arms_at hlt3
                obtain ⟨G, hGd⟩ : ∃ G, G = sw rows lim [] x j g := ⟨_, rfl⟩
                rw [← hGd] at hO
                have HG := Lib.hid hGd
                have hxq : G[q]? = some x := by rw [hGd]; exact sw_at rows lim HX.out
                have hGl : (natI G).length ≤ 1048576 := by
                  have := HGL.out j hlt3
                  rw [← hGd] at this
                  rw [natI_len]
                  omega
                have hqG : q < (natI G).length := by rw [natI_len]; exact (List.getElem?_eq_some_iff.1 hxq).1
                have iq : (q : Int) < ((natI G).length : Int) := by omega
                obtain ⟨gu, cu, rfl, hgu, hgu2⟩ := hO.pos (by omega)
                have hcq : wr.cell? ⟨gu, q, none⟩ = some (.int .i64 (x : Int)) := by
                  obtain ⟨b', o', e', hc', -⟩ := hO.rdv.atv (natI_get hxq)
                  injection e' with e'
                  injection e' with e1 e2 _
                  subst e1
                  rw [← e2] at hc'
                  rw [Nat.zero_add] at hc'
                  exact hc'
                obtain ⟨b, off, hA, hrj, hbl⟩ := (HROW.out _ hL).arms haj
                obtain ⟨b', off', hA', hrx, -⟩ := (HROW.out _ hL).arms HAX.out
                have hAA := hA.symm.trans hA'
                injection hAA with hAA
                injection hAA with e1 e2 _
                subst e1 e2
                have ix : (x : Int) < (rows.length : Int) := by have := HXL.out; omega
                have hG0 : ∀ w', OwnI w' D 3 (.slice (some ⟨gu, 0, none⟩) (natI G).length cu) (natI G) → True := fun _ _ => trivial
                have HAJ := Lib.hid haj
                have HXQ := Lib.hid hxq
                rw [hA]
                have HA := Lib.hid hA
                clear hGd haj hxq hA hA' hG0
                cases hm : decide ((j : Int) ∈ natI G)
                · have HM := Lib.hid hm
                  have hnm : j ∉ G := fun h => by have := of_decide_eq_false hm; exact this (natI_mem.2 h)
                  have HNM := Lib.hid hnm
                  have KD := Lib.hid (fun w => l15CountC ax aj w (listOk_at HO.out HAX.out) (listOk_at HO.out HAJ.out))
                  have hnr : nearR rows lim x j = decide (df ax aj ≤ lim) := nearR_at HAX.out HAJ.out
                  have HNR := Lib.hid hnr
                  obtain ⟨d, hd⟩ : ∃ d, d = df ax aj := ⟨_, rfl⟩
                  rw [← hd] at KD HNR
                  clear hm hnm hnr hd
                  cases hle : decide (d ≤ lim)
                  · have hsk := sw_skip rows lim (S := []) (g := g) (x := x) (k := j) (.inr (.inr (by rw [HNR.out]; exact hle)))
                    have HSK := Lib.hid hsk
                    clear hsk
                    go_wp2_with fail
                    refine wp_region_noPanic ?_
                    refine wp_region_held_drew (S := (fun w' => w'.cell? ⟨gu, q, none⟩ = some (.int .i64 (x : Int)) ∧ w'.rangeAt b (off + x * 15) (ac ax) ∧ w'.rangeAt b (off + j * 15) (ac aj) ∧ OwnI w' D 3 (.slice (some ⟨gu, 0, none⟩) (natI G).length cu) (natI G) ∧ Below D W0 w')) (by kernel_rfl) ⟨hcq, hrx, hrj, hO.drew, hL.drew⟩ (fun hHeld => ?_)
                    refine wpAnyH_take (i := 0) (oi := _) (v := ?_) rfl (by kernel_rfl) (by kernel_rfl) (by kernel_rfl) (fun _ _ _ h => h) (Or.inl ⟨by rfl, ?_⟩) (by assumption) ?_
                    rotate_left
                    · intro w hSw; clear hSw; first | (go_simp; done) | (go_simp; with_reducible rfl)
                    simp only [Act.put, List.getElem_toArray, List.getElem_cons_succ, List.getElem_cons_zero, List.setIfInBounds_toArray, List.set_cons_zero, List.set_cons_succ]
                    refine wpAnyH_take (i := 1) (oi := _) (v := ?_) rfl (by kernel_rfl) (by kernel_rfl) (by kernel_rfl) (fun _ _ _ h => h) (Or.inl ⟨by rfl, ?_⟩) (by assumption) ?_
                    rotate_left
                    · intro w hSw; clear hSw; first | (go_simp; done) | (go_simp; with_reducible rfl)
                    simp only [Act.put, List.getElem_toArray, List.getElem_cons_succ, List.getElem_cons_zero, List.setIfInBounds_toArray, List.set_cons_zero, List.set_cons_succ]
                    refine wpAnyH_ready (rs := [2]) (by kernel_rfl) (by simp) ?_
                    refine AllReadyH.cons (o := _) rfl (fun K hK => ?_) AllReadyH.nil
                    (try dsimp only at hHeld)
                    go_simp
                    refine (l1Has_any (some ⟨gu, 0, none⟩) cu (natI G) (j : Int) _ hHeld.2.2.2.1.rdv hGl).mono ?_
                    rintro e wn ⟨rfl, rfl⟩
                    rw [HM.out]
                    go_wp2_with fail
                    refine hK.out _ _ hHeld (fun hHeld => ?_)
                    clear hK K
                    try simp only [Act.put, List.getElem_toArray, List.getElem_cons_succ, List.getElem_cons_zero, List.setIfInBounds_toArray, List.set_cons_zero, List.set_cons_succ]
                    refine wpAnyH_take (i := 3) (oi := _) (v := ?_) rfl (by kernel_rfl) (by kernel_rfl) (by kernel_rfl) (fun _ _ _ h => h) (Or.inl ⟨by rfl, ?_⟩) (by assumption) ?_
                    rotate_left
                    · intro w hSw; clear hSw; first | (go_simp; done) | (go_simp; with_reducible rfl)
                    simp only [Act.put, List.getElem_toArray, List.getElem_cons_succ, List.getElem_cons_zero, List.setIfInBounds_toArray, List.set_cons_zero, List.set_cons_succ]
                    refine wpAnyH_take (i := 4) (oi := _) (v := ?_) rfl (by kernel_rfl) (by kernel_rfl) (by kernel_rfl) (fun _ _ _ h => h) (Or.inl ⟨by rfl, ?_⟩) (by assumption) ?_
                    rotate_left
                    · intro w hSw; clear hSw; first | (go_simp; done) | (go_simp; with_reducible rfl)
                    simp only [Act.put, List.getElem_toArray, List.getElem_cons_succ, List.getElem_cons_zero, List.setIfInBounds_toArray, List.set_cons_zero, List.set_cons_succ]
                    refine wpAnyH_take (i := 5) (oi := _) (v := ?_) rfl (by kernel_rfl) (by kernel_rfl) (by kernel_rfl) (fun _ _ _ h => h) (Or.inl ⟨by rfl, ?_⟩) (by assumption) ?_
                    rotate_left
                    · intro w hSw; clear hSw; first | (go_simp; done) | (go_simp; with_reducible rfl)
                    simp only [Act.put, List.getElem_toArray, List.getElem_cons_succ, List.getElem_cons_zero, List.setIfInBounds_toArray, List.set_cons_zero, List.set_cons_succ]
                    refine wpAnyH_take (i := 6) (oi := _) (v := ?_) rfl (by kernel_rfl) (by kernel_rfl) (by kernel_rfl) (fun _ _ _ h => h) (Or.inl ⟨by rfl, ?_⟩) (by assumption) ?_
                    rotate_left
                    · intro w hSw; clear hSw; first | (go_simp; done) | (go_simp; with_reducible rfl)
                    simp only [Act.put, List.getElem_toArray, List.getElem_cons_succ, List.getElem_cons_zero, List.setIfInBounds_toArray, List.set_cons_zero, List.set_cons_succ]
                    refine wpAnyH_take (i := 7) (oi := _) (v := ?_) rfl (by kernel_rfl) (by kernel_rfl) (by kernel_rfl) (fun _ _ _ h => h) (Or.inl ⟨by rfl, ?_⟩) (by assumption) ?_
                    rotate_left
                    · intro w hSw; clear hSw; first | (go_simp; done) | (go_simp; with_reducible rfl)
                    simp only [Act.put, List.getElem_toArray, List.getElem_cons_succ, List.getElem_cons_zero, List.setIfInBounds_toArray, List.set_cons_zero, List.set_cons_succ]
                    refine wpAnyH_take (i := 8) (oi := _) (v := ?_) rfl (by kernel_rfl) (by kernel_rfl) (by kernel_rfl) (fun _ _ _ h => h) (Or.inl ⟨by rfl, ?_⟩) (by assumption) ?_
                    rotate_left
                    · intro w hSw; clear hSw; first | (go_simp; done) | (go_simp; with_reducible rfl)
                    simp only [Act.put, List.getElem_toArray, List.getElem_cons_succ, List.getElem_cons_zero, List.setIfInBounds_toArray, List.set_cons_zero, List.set_cons_succ]
                    refine wpAnyH_take (i := 9) (oi := _) (v := ?_) rfl (by kernel_rfl) (by kernel_rfl) (by kernel_rfl) (fun _ _ _ h => h) (Or.inl ⟨by rfl, ?_⟩) (by assumption) ?_
                    rotate_left
                    · intro w9 hSw; (try dsimp only at hSw); have hq9 := hSw.1; clear hSw; first | (go_simp; done) | (go_simp; with_reducible rfl)
                    simp only [Act.put, List.getElem_toArray, List.getElem_cons_succ, List.getElem_cons_zero, List.setIfInBounds_toArray, List.set_cons_zero, List.set_cons_succ]
                    refine wpAnyH_take (i := 10) (oi := _) (v := ?_) rfl (by kernel_rfl) (by kernel_rfl) (by kernel_rfl) (fun _ _ _ h => h) (Or.inl ⟨by rfl, ?_⟩) (by assumption) ?_
                    rotate_left
                    · intro w hSw; clear hSw; first | (go_simp; done) | (go_simp; with_reducible rfl)
                    simp only [Act.put, List.getElem_toArray, List.getElem_cons_succ, List.getElem_cons_zero, List.setIfInBounds_toArray, List.set_cons_zero, List.set_cons_succ]
                    refine wpAnyH_take (i := 11) (oi := _) (v := _) rfl ?g1_1 ?g2_1 ?g3_1 (fun _ _ _ h => h) (yieldsIf_load_mid ?g4_1 _ _ rfl b ?oo_1 ?g5_1 (ac ax) _ ?g6_1 Try.underlying31 rfl (info_ac ax)) ?g7_1 ?_
                    case g5_1 => rfl
                    case g1_1 => kernel_rfl
                    case g2_1 => kernel_rfl
                    case g3_1 => kernel_rfl
                    case g6_1 => exact (fun _ h => h.2.1)
                    case g4_1 => kernel_rfl
                    case g7_1 => assumption
                    simp only [Act.put, List.getElem_toArray, List.getElem_cons_succ, List.getElem_cons_zero, List.setIfInBounds_toArray, List.set_cons_zero, List.set_cons_succ]
                    refine wpAnyH_take (i := 12) (oi := _) (v := ?_) rfl (by kernel_rfl) (by kernel_rfl) (by kernel_rfl) (fun _ _ _ h => h) (Or.inl ⟨by rfl, ?_⟩) (by assumption) ?_
                    rotate_left
                    · intro w hSw; clear hSw; first | (go_simp; done) | (go_simp; with_reducible rfl)
                    simp only [Act.put, List.getElem_toArray, List.getElem_cons_succ, List.getElem_cons_zero, List.setIfInBounds_toArray, List.set_cons_zero, List.set_cons_succ]
                    refine wpAnyH_take (i := 13) (oi := _) (v := ?_) rfl (by kernel_rfl) (by kernel_rfl) (by kernel_rfl) (fun _ _ _ h => h) (Or.inl ⟨by rfl, ?_⟩) (by assumption) ?_
                    rotate_left
                    · intro w hSw; clear hSw; first | (go_simp; done) | (go_simp; with_reducible rfl)
                    simp only [Act.put, List.getElem_toArray, List.getElem_cons_succ, List.getElem_cons_zero, List.setIfInBounds_toArray, List.set_cons_zero, List.set_cons_succ]
                    refine wpAnyH_take (i := 14) (oi := _) (v := ?_) rfl (by kernel_rfl) (by kernel_rfl) (by kernel_rfl) (fun _ _ _ h => h) (Or.inl ⟨by rfl, ?_⟩) (by assumption) ?_
                    rotate_left
                    · intro w hSw; clear hSw; first | (go_simp; done) | (go_simp; with_reducible rfl)
                    simp only [Act.put, List.getElem_toArray, List.getElem_cons_succ, List.getElem_cons_zero, List.setIfInBounds_toArray, List.set_cons_zero, List.set_cons_succ]
                    refine wpAnyH_take (i := 15) (oi := _) (v := _) rfl ?g1_2 ?g2_2 ?g3_2 (fun _ _ _ h => h) (yieldsIf_load_mid ?g4_2 _ _ rfl b ?oo_2 ?g5_2 (ac aj) _ ?g6_2 Try.underlying31 rfl (info_ac aj)) ?g7_2 ?_
                    case g5_2 => rfl
                    case g1_2 => kernel_rfl
                    case g2_2 => kernel_rfl
                    case g3_2 => kernel_rfl
                    case g6_2 => exact (fun _ h => h.2.2.1)
                    case g4_2 => kernel_rfl
                    case g7_2 => assumption
                    simp only [Act.put, List.getElem_toArray, List.getElem_cons_succ, List.getElem_cons_zero, List.setIfInBounds_toArray, List.set_cons_zero, List.set_cons_succ]
                    refine wpAnyH_take (i := 17) (oi := _) (v := ?_) rfl (by kernel_rfl) (by kernel_rfl) (by kernel_rfl) (fun _ _ _ h => h) (Or.inl ⟨by rfl, ?_⟩) (by assumption) ?_
                    rotate_left
                    · intro w hSw; clear hSw; first | (go_simp; done) | (go_simp; with_reducible rfl)
                    simp only [Act.put, List.getElem_toArray, List.getElem_cons_succ, List.getElem_cons_zero, List.setIfInBounds_toArray, List.set_cons_zero, List.set_cons_succ]
                    refine wpAnyH_ready (rs := [16]) (by kernel_rfl) (by simp) ?_
                    refine AllReadyH.cons (o := _) rfl (fun K hK => ?_) AllReadyH.nil
                    (try dsimp only at hHeld)
                    go_simp
                    refine (KD.out _).mono ?_
                    rintro e wn ⟨rfl, hbn⟩
                    go_wp2_with fail
                    refine hK.out _ _ ⟨keep_cell hHeld.1 hbn, rangeAt_below hHeld.2.1 hbn, rangeAt_below hHeld.2.2.1 hbn, hHeld.2.2.2.1.below hbn, hHeld.2.2.2.2.trans (hbn.mono (by have := hHeld.2.2.2.2.size; have := HDW.out; omega))⟩ (fun hHeld => ?_)
                    clear hK K hbn
                    try simp only [Act.put, List.getElem_toArray, List.getElem_cons_succ, List.getElem_cons_zero, List.setIfInBounds_toArray, List.set_cons_zero, List.set_cons_succ]
                    refine wpAnyH_take (i := 18) (oi := _) (v := ?_) rfl (by kernel_rfl) (by kernel_rfl) (by kernel_rfl) (fun _ _ _ h => h) (Or.inl ⟨by rfl, ?_⟩) (by assumption) ?_
                    rotate_left
                    · intro w hSw; clear hSw; first | (go_simp; done) | (go_simp; with_reducible rfl)
                    simp only [Act.put, List.getElem_toArray, List.getElem_cons_succ, List.getElem_cons_zero, List.setIfInBounds_toArray, List.set_cons_zero, List.set_cons_succ]
                    refine wpAnyH_take (i := 19) (oi := _) (v := ?_) rfl (by kernel_rfl) (by kernel_rfl) (by kernel_rfl) (fun _ _ _ h => h) (Or.inl ⟨by rfl, ?_⟩) (by assumption) ?_
                    rotate_left
                    · intro w hSw; clear hSw; first | (go_simp; done) | (go_simp; with_reducible rfl)
                    simp only [Act.put, List.getElem_toArray, List.getElem_cons_succ, List.getElem_cons_zero, List.setIfInBounds_toArray, List.set_cons_zero, List.set_cons_succ]
                    (try dsimp only at hHeld)
                    obtain ⟨-, -, -, hO3, hL3⟩ := hHeld
                    refine wpAnyH_done (by kernel_rfl) ?_ _
                    refine NoPanic.normal ?_
                    go_wp2_with fail
                    go_roundw
                    case rel => exact ⟨j + 1, _, by omega, by go_num, rfl, by rw [HSK.out, ← HG.out]; exact hO3, hL3⟩
                    case measure => simp [intOf]; omega
                  · have had := sw_add rows lim (S := []) (g := g) (x := x) (k := j) (by simp) (by rw [← HG.out]; exact HNM.out) (by rw [HNR.out]; exact hle)
                    have HAD := Lib.hid had
                    clear had
                    go_wp2_with fail
                    refine wp_region_noPanic ?_
                    refine wp_region_held_drew (S := (fun w' => w'.cell? ⟨gu, q, none⟩ = some (.int .i64 (x : Int)) ∧ w'.rangeAt b (off + x * 15) (ac ax) ∧ w'.rangeAt b (off + j * 15) (ac aj) ∧ OwnI w' D 3 (.slice (some ⟨gu, 0, none⟩) (natI G).length cu) (natI G) ∧ Below D W0 w')) (by kernel_rfl) ⟨hcq, hrx, hrj, hO.drew, hL.drew⟩ (fun hHeld => ?_)
                    refine wpAnyH_take (i := 0) (oi := _) (v := ?_) rfl (by kernel_rfl) (by kernel_rfl) (by kernel_rfl) (fun _ _ _ h => h) (Or.inl ⟨by rfl, ?_⟩) (by assumption) ?_
                    rotate_left
                    · intro w hSw; clear hSw; first | (go_simp; done) | (go_simp; with_reducible rfl)
                    simp only [Act.put, List.getElem_toArray, List.getElem_cons_succ, List.getElem_cons_zero, List.setIfInBounds_toArray, List.set_cons_zero, List.set_cons_succ]
                    refine wpAnyH_take (i := 1) (oi := _) (v := ?_) rfl (by kernel_rfl) (by kernel_rfl) (by kernel_rfl) (fun _ _ _ h => h) (Or.inl ⟨by rfl, ?_⟩) (by assumption) ?_
                    rotate_left
                    · intro w hSw; clear hSw; first | (go_simp; done) | (go_simp; with_reducible rfl)
                    simp only [Act.put, List.getElem_toArray, List.getElem_cons_succ, List.getElem_cons_zero, List.setIfInBounds_toArray, List.set_cons_zero, List.set_cons_succ]
                    refine wpAnyH_ready (rs := [2]) (by kernel_rfl) (by simp) ?_
                    refine AllReadyH.cons (o := _) rfl (fun K hK => ?_) AllReadyH.nil
                    (try dsimp only at hHeld)
                    go_simp
                    refine (l1Has_any (some ⟨gu, 0, none⟩) cu (natI G) (j : Int) _ hHeld.2.2.2.1.rdv hGl).mono ?_
                    rintro e wn ⟨rfl, rfl⟩
                    rw [HM.out]
                    go_wp2_with fail
                    refine hK.out _ _ hHeld (fun hHeld => ?_)
                    clear hK K
                    try simp only [Act.put, List.getElem_toArray, List.getElem_cons_succ, List.getElem_cons_zero, List.setIfInBounds_toArray, List.set_cons_zero, List.set_cons_succ]
                    refine wpAnyH_take (i := 3) (oi := _) (v := ?_) rfl (by kernel_rfl) (by kernel_rfl) (by kernel_rfl) (fun _ _ _ h => h) (Or.inl ⟨by rfl, ?_⟩) (by assumption) ?_
                    rotate_left
                    · intro w hSw; clear hSw; first | (go_simp; done) | (go_simp; with_reducible rfl)
                    simp only [Act.put, List.getElem_toArray, List.getElem_cons_succ, List.getElem_cons_zero, List.setIfInBounds_toArray, List.set_cons_zero, List.set_cons_succ]
                    refine wpAnyH_take (i := 4) (oi := _) (v := ?_) rfl (by kernel_rfl) (by kernel_rfl) (by kernel_rfl) (fun _ _ _ h => h) (Or.inl ⟨by rfl, ?_⟩) (by assumption) ?_
                    rotate_left
                    · intro w hSw; clear hSw; first | (go_simp; done) | (go_simp; with_reducible rfl)
                    simp only [Act.put, List.getElem_toArray, List.getElem_cons_succ, List.getElem_cons_zero, List.setIfInBounds_toArray, List.set_cons_zero, List.set_cons_succ]
                    refine wpAnyH_take (i := 5) (oi := _) (v := ?_) rfl (by kernel_rfl) (by kernel_rfl) (by kernel_rfl) (fun _ _ _ h => h) (Or.inl ⟨by rfl, ?_⟩) (by assumption) ?_
                    rotate_left
                    · intro w hSw; clear hSw; first | (go_simp; done) | (go_simp; with_reducible rfl)
                    simp only [Act.put, List.getElem_toArray, List.getElem_cons_succ, List.getElem_cons_zero, List.setIfInBounds_toArray, List.set_cons_zero, List.set_cons_succ]
                    refine wpAnyH_take (i := 6) (oi := _) (v := ?_) rfl (by kernel_rfl) (by kernel_rfl) (by kernel_rfl) (fun _ _ _ h => h) (Or.inl ⟨by rfl, ?_⟩) (by assumption) ?_
                    rotate_left
                    · intro w hSw; clear hSw; first | (go_simp; done) | (go_simp; with_reducible rfl)
                    simp only [Act.put, List.getElem_toArray, List.getElem_cons_succ, List.getElem_cons_zero, List.setIfInBounds_toArray, List.set_cons_zero, List.set_cons_succ]
                    refine wpAnyH_take (i := 7) (oi := _) (v := ?_) rfl (by kernel_rfl) (by kernel_rfl) (by kernel_rfl) (fun _ _ _ h => h) (Or.inl ⟨by rfl, ?_⟩) (by assumption) ?_
                    rotate_left
                    · intro w hSw; clear hSw; first | (go_simp; done) | (go_simp; with_reducible rfl)
                    simp only [Act.put, List.getElem_toArray, List.getElem_cons_succ, List.getElem_cons_zero, List.setIfInBounds_toArray, List.set_cons_zero, List.set_cons_succ]
                    refine wpAnyH_take (i := 8) (oi := _) (v := ?_) rfl (by kernel_rfl) (by kernel_rfl) (by kernel_rfl) (fun _ _ _ h => h) (Or.inl ⟨by rfl, ?_⟩) (by assumption) ?_
                    rotate_left
                    · intro w hSw; clear hSw; first | (go_simp; done) | (go_simp; with_reducible rfl)
                    simp only [Act.put, List.getElem_toArray, List.getElem_cons_succ, List.getElem_cons_zero, List.setIfInBounds_toArray, List.set_cons_zero, List.set_cons_succ]
                    refine wpAnyH_take (i := 9) (oi := _) (v := ?_) rfl (by kernel_rfl) (by kernel_rfl) (by kernel_rfl) (fun _ _ _ h => h) (Or.inl ⟨by rfl, ?_⟩) (by assumption) ?_
                    rotate_left
                    · intro w9 hSw; (try dsimp only at hSw); have hq9 := hSw.1; clear hSw; first | (go_simp; done) | (go_simp; with_reducible rfl)
                    simp only [Act.put, List.getElem_toArray, List.getElem_cons_succ, List.getElem_cons_zero, List.setIfInBounds_toArray, List.set_cons_zero, List.set_cons_succ]
                    refine wpAnyH_take (i := 10) (oi := _) (v := ?_) rfl (by kernel_rfl) (by kernel_rfl) (by kernel_rfl) (fun _ _ _ h => h) (Or.inl ⟨by rfl, ?_⟩) (by assumption) ?_
                    rotate_left
                    · intro w hSw; clear hSw; first | (go_simp; done) | (go_simp; with_reducible rfl)
                    simp only [Act.put, List.getElem_toArray, List.getElem_cons_succ, List.getElem_cons_zero, List.setIfInBounds_toArray, List.set_cons_zero, List.set_cons_succ]
                    refine wpAnyH_take (i := 11) (oi := _) (v := _) rfl ?g1_1 ?g2_1 ?g3_1 (fun _ _ _ h => h) (yieldsIf_load_mid ?g4_1 _ _ rfl b ?oo_1 ?g5_1 (ac ax) _ ?g6_1 Try.underlying31 rfl (info_ac ax)) ?g7_1 ?_
                    case g5_1 => rfl
                    case g1_1 => kernel_rfl
                    case g2_1 => kernel_rfl
                    case g3_1 => kernel_rfl
                    case g6_1 => exact (fun _ h => h.2.1)
                    case g4_1 => kernel_rfl
                    case g7_1 => assumption
                    simp only [Act.put, List.getElem_toArray, List.getElem_cons_succ, List.getElem_cons_zero, List.setIfInBounds_toArray, List.set_cons_zero, List.set_cons_succ]
                    refine wpAnyH_take (i := 12) (oi := _) (v := ?_) rfl (by kernel_rfl) (by kernel_rfl) (by kernel_rfl) (fun _ _ _ h => h) (Or.inl ⟨by rfl, ?_⟩) (by assumption) ?_
                    rotate_left
                    · intro w hSw; clear hSw; first | (go_simp; done) | (go_simp; with_reducible rfl)
                    simp only [Act.put, List.getElem_toArray, List.getElem_cons_succ, List.getElem_cons_zero, List.setIfInBounds_toArray, List.set_cons_zero, List.set_cons_succ]
                    refine wpAnyH_take (i := 13) (oi := _) (v := ?_) rfl (by kernel_rfl) (by kernel_rfl) (by kernel_rfl) (fun _ _ _ h => h) (Or.inl ⟨by rfl, ?_⟩) (by assumption) ?_
                    rotate_left
                    · intro w hSw; clear hSw; first | (go_simp; done) | (go_simp; with_reducible rfl)
                    simp only [Act.put, List.getElem_toArray, List.getElem_cons_succ, List.getElem_cons_zero, List.setIfInBounds_toArray, List.set_cons_zero, List.set_cons_succ]
                    refine wpAnyH_take (i := 14) (oi := _) (v := ?_) rfl (by kernel_rfl) (by kernel_rfl) (by kernel_rfl) (fun _ _ _ h => h) (Or.inl ⟨by rfl, ?_⟩) (by assumption) ?_
                    rotate_left
                    · intro w hSw; clear hSw; first | (go_simp; done) | (go_simp; with_reducible rfl)
                    simp only [Act.put, List.getElem_toArray, List.getElem_cons_succ, List.getElem_cons_zero, List.setIfInBounds_toArray, List.set_cons_zero, List.set_cons_succ]
                    refine wpAnyH_take (i := 15) (oi := _) (v := _) rfl ?g1_2 ?g2_2 ?g3_2 (fun _ _ _ h => h) (yieldsIf_load_mid ?g4_2 _ _ rfl b ?oo_2 ?g5_2 (ac aj) _ ?g6_2 Try.underlying31 rfl (info_ac aj)) ?g7_2 ?_
                    case g5_2 => rfl
                    case g1_2 => kernel_rfl
                    case g2_2 => kernel_rfl
                    case g3_2 => kernel_rfl
                    case g6_2 => exact (fun _ h => h.2.2.1)
                    case g4_2 => kernel_rfl
                    case g7_2 => assumption
                    simp only [Act.put, List.getElem_toArray, List.getElem_cons_succ, List.getElem_cons_zero, List.setIfInBounds_toArray, List.set_cons_zero, List.set_cons_succ]
                    refine wpAnyH_take (i := 17) (oi := _) (v := ?_) rfl (by kernel_rfl) (by kernel_rfl) (by kernel_rfl) (fun _ _ _ h => h) (Or.inl ⟨by rfl, ?_⟩) (by assumption) ?_
                    rotate_left
                    · intro w hSw; clear hSw; first | (go_simp; done) | (go_simp; with_reducible rfl)
                    simp only [Act.put, List.getElem_toArray, List.getElem_cons_succ, List.getElem_cons_zero, List.setIfInBounds_toArray, List.set_cons_zero, List.set_cons_succ]
                    refine wpAnyH_ready (rs := [16]) (by kernel_rfl) (by simp) ?_
                    refine AllReadyH.cons (o := _) rfl (fun K hK => ?_) AllReadyH.nil
                    (try dsimp only at hHeld)
                    go_simp
                    refine (KD.out _).mono ?_
                    rintro e wn ⟨rfl, hbn⟩
                    go_wp2_with fail
                    refine hK.out _ _ ⟨keep_cell hHeld.1 hbn, rangeAt_below hHeld.2.1 hbn, rangeAt_below hHeld.2.2.1 hbn, hHeld.2.2.2.1.below hbn, hHeld.2.2.2.2.trans (hbn.mono (by have := hHeld.2.2.2.2.size; have := HDW.out; omega))⟩ (fun hHeld => ?_)
                    clear hK K hbn
                    try simp only [Act.put, List.getElem_toArray, List.getElem_cons_succ, List.getElem_cons_zero, List.setIfInBounds_toArray, List.set_cons_zero, List.set_cons_succ]
                    refine wpAnyH_take (i := 18) (oi := _) (v := ?_) rfl (by kernel_rfl) (by kernel_rfl) (by kernel_rfl) (fun _ _ _ h => h) (Or.inl ⟨by rfl, ?_⟩) (by assumption) ?_
                    rotate_left
                    · intro w hSw; clear hSw; first | (go_simp; done) | (go_simp; with_reducible rfl)
                    simp only [Act.put, List.getElem_toArray, List.getElem_cons_succ, List.getElem_cons_zero, List.setIfInBounds_toArray, List.set_cons_zero, List.set_cons_succ]
                    refine wpAnyH_take (i := 19) (oi := _) (v := ?_) rfl (by kernel_rfl) (by kernel_rfl) (by kernel_rfl) (fun _ _ _ h => h) (Or.inl ⟨by rfl, ?_⟩) (by assumption) ?_
                    rotate_left
                    · intro w hSw; clear hSw; first | (go_simp; done) | (go_simp; with_reducible rfl)
                    simp only [Act.put, List.getElem_toArray, List.getElem_cons_succ, List.getElem_cons_zero, List.setIfInBounds_toArray, List.set_cons_zero, List.set_cons_succ]
                    (try dsimp only at hHeld)
                    obtain ⟨-, -, -, hO3, hL3⟩ := hHeld
                    refine wpAnyH_done (by kernel_rfl) ?_ _
                    refine NoPanic.normal ?_
                    have hs3 : D ≤ wn.heap.size := by have := hL3.size; have := HDW.out; omega
                    have hlG : (natI G).length ≤ 1099511627776 := by omega
                    go_wp2_with (first | (at_builtin; refine wp_appI rfl _ _ rfl D _ (natI G) rfl (hO3.alloc _) _ _ rfl (cell_of (heap_hit _ _ _ rfl) 0) ?c1 ?c2 ?_; rotate_left 2; intro v' w9 hO9 hG9 hL9) | fail)
                    try (case c1 => exact hlG)
                    try (case c2 => (simp; omega))
                    have hT9 : Below D W0 w9 := (hL3.alloc hs3 _).trans hL9
                    clear hG9 hL9 hO3 hL3
                    go_wp2
                    go_roundw
                    case rel => exact ⟨j + 1, _, by omega, by go_num, rfl, by rw [HAD.out, ← HG.out, natI_app]; exact hO9, hT9⟩
                    case measure => simp [intOf]; omega
                · have HM := Lib.hid hm
                  have hsk := sw_skip rows lim (S := []) (g := g) (x := x) (k := j) (.inr (.inl (by rw [← HG.out]; exact natI_mem.1 (of_decide_eq_true hm))))
                  have HSK := Lib.hid hsk
                  clear hm hsk
                  go_wp2_with fail
                  refine wp_region_noPanic ?_
                  refine wp_region_held_drew (S := (fun w' => w'.cell? ⟨gu, q, none⟩ = some (.int .i64 (x : Int)) ∧ w'.rangeAt b (off + x * 15) (ac ax) ∧ w'.rangeAt b (off + j * 15) (ac aj) ∧ OwnI w' D 3 (.slice (some ⟨gu, 0, none⟩) (natI G).length cu) (natI G) ∧ Below D W0 w')) (by kernel_rfl) ⟨hcq, hrx, hrj, hO.drew, hL.drew⟩ (fun hHeld => ?_)
                  refine wpAnyH_take (i := 0) (oi := _) (v := ?_) rfl (by kernel_rfl) (by kernel_rfl) (by kernel_rfl) (fun _ _ _ h => h) (Or.inl ⟨by rfl, ?_⟩) (by assumption) ?_
                  rotate_left
                  · intro w hSw; clear hSw; first | (go_simp; done) | (go_simp; with_reducible rfl)
                  simp only [Act.put, List.getElem_toArray, List.getElem_cons_succ, List.getElem_cons_zero, List.setIfInBounds_toArray, List.set_cons_zero, List.set_cons_succ]
                  refine wpAnyH_take (i := 1) (oi := _) (v := ?_) rfl (by kernel_rfl) (by kernel_rfl) (by kernel_rfl) (fun _ _ _ h => h) (Or.inl ⟨by rfl, ?_⟩) (by assumption) ?_
                  rotate_left
                  · intro w hSw; clear hSw; first | (go_simp; done) | (go_simp; with_reducible rfl)
                  simp only [Act.put, List.getElem_toArray, List.getElem_cons_succ, List.getElem_cons_zero, List.setIfInBounds_toArray, List.set_cons_zero, List.set_cons_succ]
                  refine wpAnyH_ready (rs := [2]) (by kernel_rfl) (by simp) ?_
                  refine AllReadyH.cons (o := _) rfl (fun K hK => ?_) AllReadyH.nil
                  (try dsimp only at hHeld)
                  go_simp
                  refine (l1Has_any (some ⟨gu, 0, none⟩) cu (natI G) (j : Int) _ hHeld.2.2.2.1.rdv hGl).mono ?_
                  rintro e wn ⟨rfl, rfl⟩
                  rw [HM.out]
                  go_wp2_with fail
                  refine hK.out _ _ hHeld (fun hHeld => ?_)
                  clear hK K
                  try simp only [Act.put, List.getElem_toArray, List.getElem_cons_succ, List.getElem_cons_zero, List.setIfInBounds_toArray, List.set_cons_zero, List.set_cons_succ]
                  refine wpAnyH_take (i := 3) (oi := _) (v := ?_) rfl (by kernel_rfl) (by kernel_rfl) (by kernel_rfl) (fun _ _ _ h => h) (Or.inl ⟨by rfl, ?_⟩) (by assumption) ?_
                  rotate_left
                  · intro w hSw; clear hSw; first | (go_simp; done) | (go_simp; with_reducible rfl)
                  simp only [Act.put, List.getElem_toArray, List.getElem_cons_succ, List.getElem_cons_zero, List.setIfInBounds_toArray, List.set_cons_zero, List.set_cons_succ]
                  refine wpAnyH_take (i := 4) (oi := _) (v := ?_) rfl (by kernel_rfl) (by kernel_rfl) (by kernel_rfl) (fun _ _ _ h => h) (Or.inl ⟨by rfl, ?_⟩) (by assumption) ?_
                  rotate_left
                  · intro w hSw; clear hSw; first | (go_simp; done) | (go_simp; with_reducible rfl)
                  simp only [Act.put, List.getElem_toArray, List.getElem_cons_succ, List.getElem_cons_zero, List.setIfInBounds_toArray, List.set_cons_zero, List.set_cons_succ]
                  refine wpAnyH_take (i := 5) (oi := _) (v := _) rfl (by kernel_rfl) (by kernel_rfl) (by kernel_rfl) (fun _ _ _ h => h) (Or.inr ⟨by kernel_rfl, rfl⟩) (by assumption) ?_
                  simp only [Act.put, List.getElem_toArray, List.getElem_cons_succ, List.getElem_cons_zero, List.setIfInBounds_toArray, List.set_cons_zero, List.set_cons_succ]
                  refine wpAnyH_take (i := 6) (oi := _) (v := _) rfl (by kernel_rfl) (by kernel_rfl) (by kernel_rfl) (fun _ _ _ h => h) (Or.inr ⟨by kernel_rfl, rfl⟩) (by assumption) ?_
                  simp only [Act.put, List.getElem_toArray, List.getElem_cons_succ, List.getElem_cons_zero, List.setIfInBounds_toArray, List.set_cons_zero, List.set_cons_succ]
                  refine wpAnyH_take (i := 7) (oi := _) (v := _) rfl (by kernel_rfl) (by kernel_rfl) (by kernel_rfl) (fun _ _ _ h => h) (Or.inr ⟨by kernel_rfl, rfl⟩) (by assumption) ?_
                  simp only [Act.put, List.getElem_toArray, List.getElem_cons_succ, List.getElem_cons_zero, List.setIfInBounds_toArray, List.set_cons_zero, List.set_cons_succ]
                  refine wpAnyH_take (i := 8) (oi := _) (v := _) rfl (by kernel_rfl) (by kernel_rfl) (by kernel_rfl) (fun _ _ _ h => h) (Or.inr ⟨by kernel_rfl, rfl⟩) (by assumption) ?_
                  simp only [Act.put, List.getElem_toArray, List.getElem_cons_succ, List.getElem_cons_zero, List.setIfInBounds_toArray, List.set_cons_zero, List.set_cons_succ]
                  refine wpAnyH_take (i := 9) (oi := _) (v := _) rfl (by kernel_rfl) (by kernel_rfl) (by kernel_rfl) (fun _ _ _ h => h) (Or.inr ⟨by kernel_rfl, rfl⟩) (by assumption) ?_
                  simp only [Act.put, List.getElem_toArray, List.getElem_cons_succ, List.getElem_cons_zero, List.setIfInBounds_toArray, List.set_cons_zero, List.set_cons_succ]
                  refine wpAnyH_take (i := 10) (oi := _) (v := _) rfl (by kernel_rfl) (by kernel_rfl) (by kernel_rfl) (fun _ _ _ h => h) (Or.inr ⟨by kernel_rfl, rfl⟩) (by assumption) ?_
                  simp only [Act.put, List.getElem_toArray, List.getElem_cons_succ, List.getElem_cons_zero, List.setIfInBounds_toArray, List.set_cons_zero, List.set_cons_succ]
                  refine wpAnyH_take (i := 11) (oi := _) (v := _) rfl (by kernel_rfl) (by kernel_rfl) (by kernel_rfl) (fun _ _ _ h => h) (Or.inr ⟨by kernel_rfl, rfl⟩) (by assumption) ?_
                  simp only [Act.put, List.getElem_toArray, List.getElem_cons_succ, List.getElem_cons_zero, List.setIfInBounds_toArray, List.set_cons_zero, List.set_cons_succ]
                  refine wpAnyH_take (i := 12) (oi := _) (v := _) rfl (by kernel_rfl) (by kernel_rfl) (by kernel_rfl) (fun _ _ _ h => h) (Or.inr ⟨by kernel_rfl, rfl⟩) (by assumption) ?_
                  simp only [Act.put, List.getElem_toArray, List.getElem_cons_succ, List.getElem_cons_zero, List.setIfInBounds_toArray, List.set_cons_zero, List.set_cons_succ]
                  refine wpAnyH_take (i := 13) (oi := _) (v := _) rfl (by kernel_rfl) (by kernel_rfl) (by kernel_rfl) (fun _ _ _ h => h) (Or.inr ⟨by kernel_rfl, rfl⟩) (by assumption) ?_
                  simp only [Act.put, List.getElem_toArray, List.getElem_cons_succ, List.getElem_cons_zero, List.setIfInBounds_toArray, List.set_cons_zero, List.set_cons_succ]
                  refine wpAnyH_take (i := 14) (oi := _) (v := _) rfl (by kernel_rfl) (by kernel_rfl) (by kernel_rfl) (fun _ _ _ h => h) (Or.inr ⟨by kernel_rfl, rfl⟩) (by assumption) ?_
                  simp only [Act.put, List.getElem_toArray, List.getElem_cons_succ, List.getElem_cons_zero, List.setIfInBounds_toArray, List.set_cons_zero, List.set_cons_succ]
                  refine wpAnyH_take (i := 15) (oi := _) (v := _) rfl (by kernel_rfl) (by kernel_rfl) (by kernel_rfl) (fun _ _ _ h => h) (Or.inr ⟨by kernel_rfl, rfl⟩) (by assumption) ?_
                  simp only [Act.put, List.getElem_toArray, List.getElem_cons_succ, List.getElem_cons_zero, List.setIfInBounds_toArray, List.set_cons_zero, List.set_cons_succ]
                  refine wpAnyH_take (i := 16) (oi := _) (v := _) rfl (by kernel_rfl) (by kernel_rfl) (by kernel_rfl) (fun _ _ _ h => h) (Or.inr ⟨by kernel_rfl, rfl⟩) (by assumption) ?_
                  simp only [Act.put, List.getElem_toArray, List.getElem_cons_succ, List.getElem_cons_zero, List.setIfInBounds_toArray, List.set_cons_zero, List.set_cons_succ]
                  refine wpAnyH_take (i := 17) (oi := _) (v := _) rfl (by kernel_rfl) (by kernel_rfl) (by kernel_rfl) (fun _ _ _ h => h) (Or.inr ⟨by kernel_rfl, rfl⟩) (by assumption) ?_
                  simp only [Act.put, List.getElem_toArray, List.getElem_cons_succ, List.getElem_cons_zero, List.setIfInBounds_toArray, List.set_cons_zero, List.set_cons_succ]
                  refine wpAnyH_take (i := 18) (oi := _) (v := _) rfl (by kernel_rfl) (by kernel_rfl) (by kernel_rfl) (fun _ _ _ h => h) (Or.inr ⟨by kernel_rfl, rfl⟩) (by assumption) ?_
                  simp only [Act.put, List.getElem_toArray, List.getElem_cons_succ, List.getElem_cons_zero, List.setIfInBounds_toArray, List.set_cons_zero, List.set_cons_succ]
                  refine wpAnyH_take (i := 19) (oi := _) (v := ?_) rfl (by kernel_rfl) (by kernel_rfl) (by kernel_rfl) (fun _ _ _ h => h) (Or.inl ⟨by rfl, ?_⟩) (by assumption) ?_
                  rotate_left
                  · intro w hSw; clear hSw; first | (go_simp; done) | (go_simp; with_reducible rfl)
                  simp only [Act.put, List.getElem_toArray, List.getElem_cons_succ, List.getElem_cons_zero, List.setIfInBounds_toArray, List.set_cons_zero, List.set_cons_succ]
                  (try dsimp only at hHeld)
                  obtain ⟨-, -, -, hO3, hL3⟩ := hHeld
                  refine wpAnyH_done (by kernel_rfl) ?_ _
                  refine NoPanic.normal ?_
                  go_wp2_with fail
                  go_roundw
                  case rel => exact ⟨j + 1, _, by omega, by go_num, rfl, by rw [HSK.out, ← HG.out]; exact hO3, hL3⟩
                  case measure => simp [intOf]; omega
              · obtain rfl : j = rows.length := by omega
                have d3 : decide (rows.length < rows.length) = false := by simp
                obtain ⟨h1, h2, h3⟩ := HST.out
                go_wp2_with fail
                go_roundw
                case rel => exact ⟨q + 1, _, _, h2, by go_num, rfl, h1, h3, hO, hL⟩
                case measure => simp [intOf]; omega
          · obtain rfl : q = (natI g).length := by rw [natI_len] at *; omega
            have d2 : decide ((natI g).length < (natI g).length) = false := by simp
            have hge : g = grpL rows lim k := bfs_end rows lim (natI_len g) hbf
            obtain ⟨A2, c2, rfl, -⟩ := hO.form
            have HGE := Lib.hid hge
            clear hge hgp hbf
            go_wp2_with fail
            have hsD : D ≤ wr.heap.size := by have := HDW.out; have := hL.size; omega
            have hO4 : OwnI (wr.alloc (.cells #[] 3)) D 3 (.slice (some ⟨wr.heap.size, 0, none⟩) 0 0) [] := OwnI.noneT wr _ _ rfl hsD
            have hOg := hO.alloc (.cells #[] 3)
            have hLg := hL.alloc hsD (.cells #[] 3)
            clear hO hL
            go_loopw [12, 13] (fun s i wi => ∃ (m b c : Nat), m ≤ (natI g).length ∧ i = .int .i64 m ∧ s = .slice (some ⟨b, 0, none⟩) (putAllI ((natI g).take m)).length c ∧ OwnI wi D 3 (.slice (some ⟨b, 0, none⟩) (putAllI ((natI g).take m)).length c) (putAllI ((natI g).take m)) ∧ OwnI wi D 3 (.slice A2 (natI g).length c2) (natI g) ∧ Below D W0 wi) (fun _ i _ => (natI g).length - (intOf i).toNat)
            case atStart => exact ⟨0, _, 0, Nat.zero_le _, rfl, rfl, hO4, hOg, hLg⟩
            case round =>
              clear hO4 hOg hLg
              obtain ⟨m, bs, cs, hm, rfl, rfl, hS, hOg, hLg⟩ := hrel
              by_cases hlt4 : m < (natI g).length
              · have i4 : (m : Int) < ((natI g).length : Int) := by omega
                have d4 : decide (m < (natI g).length) = true := by simpa using hlt4
                obtain ⟨b, off, rfl, c1, -⟩ := hOg.rdv.at_ hlt4
                obtain ⟨y, hy⟩ : ∃ y, y = (natI g)[m] := ⟨_, rfl⟩
                rw [← hy] at c1
                have hyk : (natI g)[m]? = some y := by rw [List.getElem?_eq_getElem hlt4, hy]
                have hp : putAllI ((natI g).take (m + 1)) = putI (putAllI ((natI g).take m)) y := by rw [List.take_add_one, hyk]; exact putAllI_snoc _ _
                have HP := Lib.hid hp
                have hsl : (putAllI ((natI g).take m)).length ≤ 1000000 := by
                  have := putAllI_len ((natI g).take m)
                  rw [List.length_take] at this
                  omega
                have hDw : D ≤ wr.heap.size := by have := hLg.size; have := HDW.out; omega
                obtain ⟨Z, hZ⟩ : ∃ Z, Z = putAllI ((natI g).take m) := ⟨_, rfl⟩
                rw [← hZ] at hS hsl HP ⊢
                have K4 := Lib.hid (fun w => fun (h : OwnI w D 3 (.slice (some ⟨bs, 0, none⟩) Z.length cs) Z) (hB : D ≤ w.heap.size) => l1Put_any D bs cs Z y w h hsl hB)
                clear hy hyk hp hZ
                go_wp2_with fail
                refine (K4.out _ hS hDw).mono ?_
                rintro e w5 ⟨b5, c5, rfl, hS5, hb5⟩
                have hO5 := hOg.below hb5
                have hL5 := hLg.trans (hb5.mono hDw)
                clear hS hOg hLg hb5
                go_wp2_with fail
                go_roundw
                case rel => exact ⟨m + 1, b5, c5, by omega, by go_num, by rw [HP.out], by rw [HP.out]; exact hS5, hO5, hL5⟩
                case measure => simp [intOf]; omega
              · obtain rfl : m = (natI g).length := by omega
                have d4 : decide ((natI g).length < (natI g).length) = false := by simp
                rw [List.take_length] at hS ⊢
                have hR : putAllI (natI g) = rowC (grpL rows lim k) := by rw [← HGE.out]; rfl
                obtain ⟨R, hRd⟩ : ∃ R, R = rowC (grpL rows lim k) := ⟨_, rfl⟩
                rw [hR, ← hRd] at hS ⊢
                have hRl : R.length ≤ 1048576 := by rw [hRd]; have := rowC_len (grpL rows lim k); have := grpL_len rows lim HK.out; omega
                have HR := Lib.hid hRd
                clear hR hRd hOg
                obtain ⟨hG6, hU6, hT6⟩ := HGB.out _ hLg
                have hDw : D ≤ wr.heap.size := by have := hLg.size; have := HDW.out; omega
                have hBw := hT6.size
                obtain ⟨z, hz⟩ : ∃ z, z = clS rows lim k := ⟨_, rfl⟩
                obtain ⟨Y, hY⟩ : ∃ Y, Y = clR rows lim k := ⟨_, rfl⟩
                have hzl : z.length ≤ 1099511627776 := by rw [hz]; have := clS_len rows lim k (by have := HK.out; omega); have : k * rows.length ≤ 16 * 16 := Nat.mul_le_mul (by have := HK.out; omega) (by omega); omega
                have hYl : Y.length ≤ 1048576 := by rw [hY]; have := clR_len rows lim k (by have := HK.out; omega); have := HK.out; omega
                rw [← hz] at hU6
                rw [← hY] at hG6
                have HZ := Lib.hid hz
                have HY := Lib.hid hY
                have hSb : ∀ b, (Value.slice (some ⟨bs, 0, none⟩) R.length cs).ownBlock = some b → D ≤ b := fun b hb => (hS.lt b hb).1
                have hSu : (Value.slice (some ⟨bs, 0, none⟩) R.length cs).ownBlock = none ∨ (Value.slice (some ⟨bs, 0, none⟩) R.length cs).ownBlock ≠ us.ownBlock := ob_gt_ne hSb HUB.out
                have HSU := Lib.hid hSu
                have HSB := Lib.hid hSb
                clear hz hY hSu hSb hLg
                go_upto_region 24 with (first | (at_builtin; refine wp_appIsAt rfl _ _ rfl w.heap.size us z rfl hU6 ⟨bs, 0, none⟩ R.length cs R rfl hS.rdv rfl hzl (by omega) hBw ?_; intro us' w7 hU7 hG7 hL7 hA7) | fail)
                have hS7 := hS.other hG7 HSU.out
                have hGG7 := hG6.other HAP.out hG7
                have hT7 := hT6.trans hL7
                have hs7 := hL7.size
                have hs67 := hG7.size
                have hAp7 : Ap us' v vs := by
                  refine ⟨?_, fun i u hu => ?_⟩
                  · rcases hA7 with e | e
                    · rw [e]; exact HAP.out.out
                    · refine ob_gt_ne (D := D) (fun b hb => ?_) HGV.out
                      rw [e] at hb
                      injection hb with hb
                      omega
                  · rcases hA7 with e | e
                    · rw [e]; exact HAP.out.own i u hu
                    · refine ob_lt_ne (D := D) (HGU.out i u hu) (fun b hb => ?_)
                      rw [e] at hb
                      injection hb with hb
                      omega
                have hub7 : ∀ b, us'.ownBlock = some b → b < w7.heap.size := fun b hb => (hU7.lt b hb).2
                have HAP7 := Lib.hid hAp7
                have q1 : ∀ (i : Nat) (u' : Value), vs[i]? = some u' → u'.ownBlock = none ∨ u'.ownBlock ≠ (Value.slice (some ⟨bs, 0, none⟩) R.length cs).ownBlock := fun i u' hu' => ob_lt_ne (HGU.out i u' hu') HSB.out
                have q2 : (Value.slice (some ⟨bs, 0, none⟩) R.length cs).ownBlock = none ∨ (Value.slice (some ⟨bs, 0, none⟩) R.length cs).ownBlock ≠ v.ownBlock := ob_gt_ne HSB.out HGV.out
                have hub' : ∀ b, us'.ownBlock = some b → b = bs → False := fun b hb e => by
                  rcases hA7 with e7 | e7
                  · have := HUB.out b (by rw [← e7]; exact hb)
                    have := HSB.out bs rfl
                    omega
                  · rw [e7] at hb
                    injection hb with hb
                    have := (hS.lt bs rfl).2
                    omega
                have HUB7 := Lib.hid hub'
                have HUB8 := Lib.hid hub7
                have Q1 := Lib.hid q1
                have Q2 := Lib.hid q2
                clear q1 q2 hS hG6 hU6 hG7 hL7 hA7 hAp7 hub' hub7 hT6
                go_wp2_with (first | (at_builtin; refine wp_appGAt rfl _ _ rfl w.heap.size v Y vs rfl (hGG7.below (Below_al (Below.refl _ _) _)) _ _ R rfl (cell_of (heap_hit _ _ _ rfl) 0) (OwnI.base (hS7.alloc _) ?c0) Q1.out Q2.out hYl ?c4 ?_; rotate_left 2; intro v' w9 hG9 hR9 hL9 hA9) | fail)
                try (case c0 => omega)
                try (case c4 => (simp; omega))
                have hT9 := (Below_al hT7 _).trans hL9
                have hU9 := (hU7.alloc _).other hR9 HAP7.out.out
                have hAp9 : Ap us' v' (vs ++ [.slice (some ⟨bs, 0, none⟩) R.length cs]) := by
                  refine ⟨?_, fun i u hu => ?_⟩
                  · rcases hA9 with e | e
                    · rw [e]; exact HAP7.out.out
                    · refine ob_lt_ne HUB8.out (fun b hb => ?_)
                      rw [e] at hb
                      injection hb with hb
                      rw [← hb]
                      simp
                  · by_cases hi : i < vs.length
                    · rw [List.getElem?_append_left hi] at hu
                      exact HAP7.out.own i u hu
                    · rw [List.getElem?_append_right (by omega)] at hu
                      have hi0 : i - vs.length = 0 := by
                        have := (List.getElem?_eq_some_iff.1 hu).1
                        simp at this
                        omega
                      rw [hi0] at hu
                      simp at hu
                      subst hu
                      cases e : us'.ownBlock with
                      | none => exact .inr (by simp [Value.ownBlock])
                      | some b => exact .inr fun e2 => HUB7.out b e (by simp [Value.ownBlock] at e2; exact e2.symm)
                clear hR9 hL9 hA9 hGG7 hU7 hS7 hT7
                go_wp2_with fail
                go_roundw
                case rel => exact ⟨k + 1, v', _, us', HK.out, by go_num, rfl, rfl, by rw [clR_add rows lim HNI.out, ← HY.out, ← HR.out]; exact hG9, by rw [clS_add rows lim HNI.out, ← HZ.out, ← HR.out]; exact hU9, hAp9, hT9⟩
                case measure => simp [intOf]; have := HK.out; omega
      · rw [hm] at KH
        have hin : k ∈ (clC rows lim k).2 := (clS_mem rows lim k k).1 (of_decide_eq_true hm)
        have HIN := Lib.hid hin
        clear hm hin
        go_wp2_with fail
        refine (KH.out _ hru).mono ?_
        rintro e w2 ⟨rfl, hww⟩
        replace hww := hww.symm
        subst hww
        go_wp2_with fail
        go_roundw
        case rel => exact ⟨k + 1, v, vs, _, by omega, by go_num, rfl, rfl, by rw [clR_skip rows lim HIN.out]; exact hG, by rw [clS_skip rows lim HIN.out]; exact hU, HAP.out, hb⟩
        case measure => simp [intOf]; omega
    · obtain rfl : k = rows.length := by omega
      have d1 : decide (rows.length < rows.length) = false := by simp
      go_wp2
      go_ret2
      exact ⟨_, vs, rfl, hG, hb⟩
end Go.Proofs.Ytjodoljgpdbimaa
