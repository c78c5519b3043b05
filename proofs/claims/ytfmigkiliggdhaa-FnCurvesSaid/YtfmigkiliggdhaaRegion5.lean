/- Contracts: regions of fields and of arms. -/
import Derived.Test.YtfmigkiliggdhaaRegion4
import Derived.Test.YtfmigkiliggdhaaFieldFns
import Derived.Test.YtfmigkiliggdhaaArms
namespace Go.Proofs.Ytfmigkiliggdhaa
open Go.ChangeShapes Go.WideShapes Go.ChangeAt Go.RowKit

theorem cfField (args : Array Value) (w : World) : (callFunc 66 args).run Try.prog w = .ok (.enter 66 args) w := by kernel_rfl
theorem held3 {a w w' : World} {p q r : Addr} {u v x : Value} (h : w.cell? p = some u ∧ w.cell? q = some v ∧ w.cell? r = some x ∧ Below a.heap.size a w) (hb : Below w.heap.size w w') : w'.cell? p = some u ∧ w'.cell? q = some v ∧ w'.cell? r = some x ∧ Below a.heap.size a w' :=
  ⟨keep_cell h.1 hb, keep_cell h.2.1 hb, keep_cell h.2.2.1 hb, h.2.2.2.trans (hb.mono h.2.2.2.size)⟩
set_option maxHeartbeats 1000000 in
theorem FieldRegion_cl (D E : Nat) (d l s x y : Int) (w : World) (hd0 : 0 ≤ d) (hd7 : d ≤ 7) (h0 : 0 ≤ l) (h4 : l ≤ 4) (hx0 : 0 ≤ x) (hx1 : x ≤ 19) (hy0 : 0 ≤ y) (hy1 : y ≤ 23) (c1 : w.cell? ⟨D, 0, none⟩ = some (.int .i64 d)) (c2 : w.cell? ⟨D, 1, none⟩ = some (.int .i64 l)) (c3 : w.cell? ⟨E, 0, none⟩ = some (.int .i64 s)) :
    Calls Try.prog 66 #[.int .i64 x, .int .i64 y, .pointer (some ⟨D, 0, none⟩), .pointer (some ⟨E, 0, none⟩)] w fun e w' => e = .returned (.bool (partF d l x y == s)) ∧ Below w.heap.size w w' := by
  have K := fun w => partAt_any d l x y hd0 hd7 h0 h4 hx0 hx1 hy0 hy1 w
  generalize partF d l x y = z at *
  have K' := Lib.hid K
  clear K
  go_enter Try.func66, Try.ntmps66
  go_wp2
  go_region_held3 (fun w' => w'.cell? ⟨D, 0, none⟩ = some (.int .i64 d) ∧ w'.cell? ⟨D, 1, none⟩ = some (.int .i64 l) ∧ w'.cell? ⟨E, 0, none⟩ = some (.int .i64 s) ∧ Below w.heap.size w w') (first | assumption | exact held3 (by assumption) (by assumption) | exact ⟨c1, c2, c3, (Below.refl _ _).drew⟩) (first | (go_at_call 47; refine (K'.out _).mono ?_; rintro e w3 ⟨rfl, hb3⟩))
  go_wp2
  go_ret
  exact ⟨rfl, And.right (And.right (And.right (by assumption)))⟩
set_option maxHeartbeats 2000000 in
theorem FieldRegion_yes (d l p q s : Int) (w : World) (hf : fieldOk d l p q = true) (hs0 : 0 ≤ s) (hs1 : s ≤ 1) : Calls Try.prog 27 #[.agg #[.int .i64 d, .int .i64 l, .int .i64 p, .int .i64 q], .int .i64 s] w (RegOk w (regRows (fun x y => partF d l x y == s)) true) := by
  obtain ⟨⟨hd0, hd7⟩, ⟨h0, h4⟩, _, _⟩ := fieldOk_bd hf
  have HC : ∀ (x y : Int) (w' : World), 0 ≤ x → x ≤ 19 → 0 ≤ y → y ≤ 23 → Below (((w.alloc (Obj.cells #[.int .i64 d, .int .i64 l, .int .i64 p, .int .i64 q] 43)).alloc (Obj.cells #[.int .i64 s] 3)).alloc (Obj.cells #[.slice none 0 0] 28)).heap.size (((w.alloc (Obj.cells #[.int .i64 d, .int .i64 l, .int .i64 p, .int .i64 q] 43)).alloc (Obj.cells #[.int .i64 s] 3)).alloc (Obj.cells #[.slice none 0 0] 28)) w' → Calls Try.prog 66 (#[.int .i64 x, .int .i64 y] ++ #[.pointer (some ⟨w.heap.size, 0, none⟩), .pointer (some ⟨w.heap.size + 1, 0, none⟩)]) w' fun e w'' => e = .returned (.bool ((fun x y => partF d l x y == s) x y)) ∧ Below w'.heap.size w' w'' := by
    intro x y w' a1 a2 a3 a4 hb
    show Calls Try.prog 66 #[.int .i64 x, .int .i64 y, .pointer (some ⟨w.heap.size, 0, none⟩), .pointer (some ⟨w.heap.size + 1, 0, none⟩)] w' _
    obtain ⟨hc1, hf1⟩ := bcell hb
    have e0 := hc1 (w.heap.size) 0 (by first | omega | (simp; done) | (simp; omega))
    rw [show (((w.alloc (Obj.cells #[.int .i64 d, .int .i64 l, .int .i64 p, .int .i64 q] 43)).alloc (Obj.cells #[.int .i64 s] 3)).alloc (Obj.cells #[.slice none 0 0] 28)).cell? ⟨w.heap.size, 0, none⟩ = (#[.int .i64 d, .int .i64 l, .int .i64 p, .int .i64 q])[0]? from by simp [go_sem]] at e0
    have e1 := hc1 (w.heap.size) 1 (by first | omega | (simp; done) | (simp; omega))
    rw [show (((w.alloc (Obj.cells #[.int .i64 d, .int .i64 l, .int .i64 p, .int .i64 q] 43)).alloc (Obj.cells #[.int .i64 s] 3)).alloc (Obj.cells #[.slice none 0 0] 28)).cell? ⟨w.heap.size, 1, none⟩ = (#[.int .i64 d, .int .i64 l, .int .i64 p, .int .i64 q])[1]? from by simp [go_sem]] at e1
    have e2 := hc1 (w.heap.size + 1) 0 (by first | omega | (simp; done) | (simp; omega))
    rw [show (((w.alloc (Obj.cells #[.int .i64 d, .int .i64 l, .int .i64 p, .int .i64 q] 43)).alloc (Obj.cells #[.int .i64 s] 3)).alloc (Obj.cells #[.slice none 0 0] 28)).cell? ⟨w.heap.size + 1, 0, none⟩ = (#[.int .i64 s])[0]? from by simp [go_sem]] at e2
    exact FieldRegion_cl w.heap.size (w.heap.size + 1) d l s x y w' hd0 hd7 h0 h4 a1 a2 a3 a4 e0 e1 e2
  have HC' := Lib.hid HC
  clear HC
  go_enter Try.func27, Try.ntmps27
  go_wp2_with (first | (go_at_call 65; refine (IsValidField_any _ _ _ _ _).mono ?_; rintro e wx ⟨rfl, hbx⟩; obtain ⟨hc1, hf1⟩ := bcell hbx; have hz1 : w.heap.size + 1 < wx.heap.size := by have := hbx.size; simp at this; omega) | (go_at_call 44; refine (inside_any _ _ _ _).mono ?_; rintro e w' ⟨rfl, rfl⟩) | fail)
  refine (regionOf_any 66 #[.pointer (some ⟨w.heap.size, 0, none⟩), .pointer (some ⟨w.heap.size + 1, 0, none⟩)] (fun x y => partF d l x y == s) _ cfField (fun x y w' a1 a2 a3 a4 hb => HC'.out x y w' a1 a2 a3 a4 (Below_then hbx hb))).mono ?_
  rintro e w1 ⟨v, rfl, ho, hb⟩
  obtain ⟨A, c, rfl, -⟩ := ho.form
  have hbW := Below_then hbx hb
  clear hc1 hf1
  obtain ⟨hc1, hf1⟩ := bcell hbW
  have hz : w.heap.size + 1 + 1 < w1.heap.size := by have := hbW.size; simp at this; omega
  have hzx := hbx.size
  simp only [World.size_alloc] at hzx
  go_wp2
  exact bodyPost_ret (v := .tuple #[.agg #[.slice A (regRows (fun x y => partF d l x y == s)).length c], .bool true]) (by simp [results, Try.results27, go_sem, hc1]) rfl ⟨_, rfl, OwnI.base (ownsRow_setCell_below ho (show w.heap.size + 1 + 1 < _ by omega) _) (by omega), by
    refine Below.setCell (Below_then (a := w) ?_ hbW) (by first | omega | (simp; done) | (simp; omega)) _
    (repeat (first | exact Below.refl _ _ | assumption | refine Below_al ?_ _ | refine Below.drew ?_ | refine Below_then ?_ (by assumption) | refine Below.setCell ?_ (by first | omega | (simp; done) | (simp; omega)) _))⟩
theorem FieldRegion_no (d l p q s : Int) (w : World) (hn : ¬ ((fieldOk d l p q = true) ∧ (0 ≤ s ∧ s ≤ 1))) : Calls Try.prog 27 #[.agg #[.int .i64 d, .int .i64 l, .int .i64 p, .int .i64 q], .int .i64 s] w (RegOk w [] false) := by
  by_cases g0 : fieldOk d l p q = true
  · have g1 : ¬ (0 ≤ s ∧ s ≤ 1) := fun h => hn ⟨g0, h⟩
    clear hn
    go_enter Try.func27, Try.ntmps27
    go_wp2_with (first | (go_at_call 65; refine (IsValidField_any _ _ _ _ _).mono ?_; rintro e wx ⟨rfl, hbx⟩; obtain ⟨hc1, hf1⟩ := bcell hbx; have hz1 : w.heap.size + 1 + 1 < wx.heap.size := by have := hbx.size; simp at this; omega) | (go_at_call 44; refine (inside_any _ _ _ _).mono ?_; rintro e w' ⟨rfl, rfl⟩) | fail)
    all_goals exact bodyPost_ret (v := .tuple #[.agg #[.slice none 0 0], .bool false]) (by simp [results, Try.results27, go_sem, hc1]) rfl ⟨_, rfl, OwnI.nil _ _ _, by (repeat (first | exact Below.refl _ _ | assumption | refine Below_al ?_ _ | refine Below.drew ?_ | refine Below_then ?_ (by assumption) | refine Below.setCell ?_ (by first | omega | (simp; done) | (simp; omega)) _))⟩
  · clear hn
    go_enter Try.func27, Try.ntmps27
    go_wp2_with (first | (go_at_call 65; refine (IsValidField_any _ _ _ _ _).mono ?_; rintro e wx ⟨rfl, hbx⟩; obtain ⟨hc1, hf1⟩ := bcell hbx; have hz1 : w.heap.size + 1 + 1 < wx.heap.size := by have := hbx.size; simp at this; omega) | (go_at_call 44; refine (inside_any _ _ _ _).mono ?_; rintro e w' ⟨rfl, rfl⟩) | fail)
    all_goals exact bodyPost_ret (v := .tuple #[.agg #[.slice none 0 0], .bool false]) (by simp [results, Try.results27, go_sem, hc1]) rfl ⟨_, rfl, OwnI.nil _ _ _, by (repeat (first | exact Below.refl _ _ | assumption | refine Below_al ?_ _ | refine Below.drew ?_ | refine Below_then ?_ (by assumption) | refine Below.setCell ?_ (by first | omega | (simp; done) | (simp; omega)) _))⟩
theorem specFieldRegion_no (d l p q s : Int) (w : World) (hn : ¬ ((fieldOk d l p q = true) ∧ (0 ≤ s ∧ s ≤ 1))) : Calls Try.prog 28 #[.agg #[.int .i64 d, .int .i64 l, .int .i64 p, .int .i64 q], .int .i64 s] w (RegOk w [] false) := by
  by_cases g0 : fieldOk d l p q = true
  · have g1 : ¬ (0 ≤ s ∧ s ≤ 1) := fun h => hn ⟨g0, h⟩
    clear hn
    go_enter Try.func28, Try.ntmps28
    go_wp2_with (first | (go_at_call 67; refine (l3Good_any _ _ _ _ _).mono ?_; rintro e wx ⟨rfl, hbx⟩; obtain ⟨hc1, hf1⟩ := bcell hbx; have hz1 : w.heap.size + 1 < wx.heap.size := by have := hbx.size; simp at this; omega) | (go_at_call 48; refine (l1In_any _ _ _ _).mono ?_; rintro e w' ⟨rfl, rfl⟩) | fail)
    all_goals exact bodyPost_ret (v := .tuple #[.agg #[.slice none 0 0], .bool false]) (by simp [results, Try.results28, go_sem, hc1]) rfl ⟨_, rfl, OwnI.nil _ _ _, by (repeat (first | exact Below.refl _ _ | assumption | refine Below_al ?_ _ | refine Below.drew ?_ | refine Below_then ?_ (by assumption) | refine Below.setCell ?_ (by first | omega | (simp; done) | (simp; omega)) _))⟩
  · clear hn
    go_enter Try.func28, Try.ntmps28
    go_wp2_with (first | (go_at_call 67; refine (l3Good_any _ _ _ _ _).mono ?_; rintro e wx ⟨rfl, hbx⟩; obtain ⟨hc1, hf1⟩ := bcell hbx; have hz1 : w.heap.size + 1 < wx.heap.size := by have := hbx.size; simp at this; omega) | (go_at_call 48; refine (l1In_any _ _ _ _).mono ?_; rintro e w' ⟨rfl, rfl⟩) | fail)
    all_goals exact bodyPost_ret (v := .tuple #[.agg #[.slice none 0 0], .bool false]) (by simp [results, Try.results28, go_sem, hc1]) rfl ⟨_, rfl, OwnI.nil _ _ _, by (repeat (first | exact Below.refl _ _ | assumption | refine Below_al ?_ _ | refine Below.drew ?_ | refine Below_then ?_ (by assumption) | refine Below.setCell ?_ (by first | omega | (simp; done) | (simp; omega)) _))⟩
set_option maxHeartbeats 2000000 in
theorem specFieldRegion_yes (d l p q s : Int) (w : World) (hf : fieldOk d l p q = true) (hs0 : 0 ≤ s) (hs1 : s ≤ 1) :
    Calls Try.prog 28 #[.agg #[.int .i64 d, .int .i64 l, .int .i64 p, .int .i64 q], .int .i64 s] w (RegOk w (regRows (fun x y => partF d l x y == s)) true) := by
  obtain ⟨⟨hd0, hd7⟩, ⟨h0, h4⟩, _, _⟩ := fieldOk_bd hf
  obtain ⟨h, eh⟩ : ∃ h : Int → Int → Bool, h = (fun x y => partF d l x y == s) := ⟨_, rfl⟩
  rw [← eh]
  have EH := Lib.hid eh
  clear eh
  go_enter Try.func28, Try.ntmps28
  go_wp2_with (first | (go_at_call 67; refine (l3Good_any _ _ _ _ _).mono ?_; rintro e wx ⟨rfl, hbx⟩; obtain ⟨hc1, hf1⟩ := bcell hbx; have hz1 : w.heap.size + 1 < wx.heap.size := by have := hbx.size; simp at this; omega) | (go_at_call 48; refine (l1In_any _ _ _ _).mono ?_; rintro e w' ⟨rfl, rfl⟩) | fail)
  refine (l9Empty_any _).mono ?_
  rintro e w1 ⟨g, rfl, hg, hrow, hb1⟩
  have hz1 := hb1.size
  have hbx : Below ((w.alloc (Obj.cells #[.int .i64 d, .int .i64 l, .int .i64 p, .int .i64 q] 43)).alloc (Obj.cells #[.slice none 0 0] 28)).heap.size ((w.alloc (Obj.cells #[.int .i64 d, .int .i64 l, .int .i64 p, .int .i64 q] 43)).alloc (Obj.cells #[.slice none 0 0] 28)) _ := hbx
  have hzx := hbx.size
  simp only [World.size_alloc] at hzx
  have hzy := hb1.size
  (try simp only [World.size_alloc] at hzy)
  have hgy := hg
  (try simp only [World.size_alloc] at hgy)
  have hgl := heap_lt hrow
  go_wp2_with fail
  obtain ⟨V, eV⟩ : ∃ V, V = w1.heap.size := ⟨_, rfl⟩
  rw [← eV]
  obtain ⟨L, eL⟩ : ∃ L : List (Nat × Obj), L = [(w.heap.size + 1, Obj.cells #[.slice none 0 0] 28 (0, 0)), (V, Obj.cells #[.slice (some ⟨g, 0, none⟩) 24 24] 28 (0, 0)), (w.heap.size, Obj.cells #[.int .i64 d, .int .i64 l, .int .i64 p, .int .i64 q] 43 (0, 0))] := ⟨_, rfl⟩
  have hL : ∀ p ∈ L, p.1 ≠ g := by
    rw [eL]
    intro p hp
    simp only [List.mem_cons, List.not_mem_nil, or_false] at hp
    rcases hp with rfl | rfl | rfl
    all_goals (show _ ≠ g; omega)
  have mS : (w.heap.size + 1, Obj.cells #[.slice none 0 0] 28 (0, 0)) ∈ L := by rw [eL]; simp
  have mV : (V, Obj.cells #[.slice (some ⟨g, 0, none⟩) 24 24] 28 (0, 0)) ∈ L := by rw [eL]; simp
  have mB0 : (w.heap.size, Obj.cells #[.int .i64 d, .int .i64 l, .int .i64 p, .int .i64 q] 43 (0, 0)) ∈ L := by rw [eL]; simp
  have HL := Lib.hid hL
  have MS := Lib.hid mS
  have MV := Lib.hid mV
  clear hL mS mV
  have MB0 := Lib.hid mB0
  clear mB0
  have h0 : RegSt w g L (grid2 (cellF h) 0 0) (w1.alloc (.cells #[.slice (some ⟨g, 0, none⟩) 24 24] 28)) := by
    rw [grid2_zero _ (cellF_zero h)]
    refine ⟨?_, ?_, ?_⟩
    · rw [heap_miss _ _ _ (by omega), hrow]
    · rw [eL]
      intro p hp
      simp only [List.mem_cons, List.not_mem_nil, or_false] at hp
      rcases hp with rfl | rfl | rfl
      all_goals (try dsimp only)
      all_goals first | (rw [eV]; exact heap_hit _ _ _ rfl) | (rw [heap_miss _ _ _ (by omega), hb1.block _ (by first | omega | (simp only [World.size_alloc]; done) | (simp only [World.size_alloc]; omega) | (simp; done) | (simp; omega))]; repeat (first | rw [heap_hit _ _ _ (by first | omega | (simp only [World.size_alloc]; done) | (simp only [World.size_alloc]; omega) | (simp; done) | (simp; omega))] | rw [heap_miss _ _ _ (by first | omega | (simp only [World.size_alloc]; done) | (simp only [World.size_alloc]; omega) | (simp; done) | (simp; omega))] | rw [hbx.block _ (by first | omega | (simp only [World.size_alloc]; done) | (simp only [World.size_alloc]; omega) | (simp; done) | (simp; omega))]))
    · exact Below_al (Below_then (Below_then (by (repeat (first | exact Below.refl _ _ | assumption | refine Below_al ?_ _ | refine Below.drew ?_ | refine Below_then ?_ (by assumption) | refine Below.setCell ?_ (by first | omega | (simp; done) | (simp; omega)) _))) hbx) hb1) _
  have hgw : w.heap.size ≤ g := by omega
  have hVg : V ≠ g := by omega
  have H0 := Lib.hid h0
  clear h0 eL hrow hb1 hz1 hg hgl eV hbx hzx hzy hgy hc1 hf1
  go_loopw [7] (fun i wr => ∃ k : Nat, k ≤ 24 ∧ i = .int .i64 k ∧ RegSt w g L (grid2 (cellF h) k 0) wr) (fun i _ => 24 - (intOf i).toNat)
  case atStart => exact ⟨0, by omega, rfl, H0.out⟩
  case round =>
    clear H0
    obtain ⟨k, hk, rfl, hst⟩ := hrel
    by_cases hlt : k < 24
    · have hd : decide ((k : Int) < 24) = true := by simp; omega
      go_wp2_with fail
      clear hd
      go_loopw [8] (fun i wr => ∃ j : Nat, j ≤ 20 ∧ i = .int .i64 j ∧ RegSt w g L (grid2 (cellF h) k j) wr) (fun i _ => 20 - (intOf i).toNat)
      case atStart => exact ⟨0, by omega, rfl, hst⟩
      case round =>
        clear hst
        obtain ⟨j, hj, rfl, hst⟩ := hrel
        by_cases hlt2 : j < 20
        · have hd2 : decide ((j : Int) < 20) = true := by simp; omega
          have fin : ∀ (wq : World), RegSt w g L (grid2 (cellF h) k j) wq → (wq.cell? ⟨V, 0, none⟩ = some (.slice (some ⟨g, 0, none⟩) 24 24)) ∧ ∃ v, wq.heap[g]? = some (.cells (ints (grid2 (cellF h) k j)) 3 (0, 0)) ∧ (grid2 (cellF h) k j)[k]? = some v ∧ v = cellF h k j := fun wq hq =>
            ⟨cell_of (hq.keep _ MV.out) 0, cellF h k j, hq.row, by rw [List.getElem?_eq_getElem (by rw [grid2_len]; omega), grid2_get], rfl⟩
          have FIN := Lib.hid fin
          clear fin
          obtain ⟨z, hz⟩ : ∃ z, z = partF d l j k := ⟨_, rfl⟩
          have K := fun w => l10Part_any d l p q j k hd0 hd7 h0 h4 (by omega) (by omega) (by omega) (by omega) w
          rw [← hz] at K
          have HZ := Lib.hid hz
          have K' := Lib.hid K
          clear hz K
          have f0 : wr.cell? ⟨w.heap.size, 0, none⟩ = some (.int .i64 d) := cell_of (hst.keep _ MB0.out) 0
          have f1 : wr.cell? ⟨w.heap.size, 1, none⟩ = some (.int .i64 l) := cell_of (hst.keep _ MB0.out) 1
          have f2 : wr.cell? ⟨w.heap.size, 2, none⟩ = some (.int .i64 p) := cell_of (hst.keep _ MB0.out) 2
          have f3 : wr.cell? ⟨w.heap.size, 3, none⟩ = some (.int .i64 q) := cell_of (hst.keep _ MB0.out) 3
          go_wp2_with fail
          refine (K'.out _).mono ?_
          rintro e w2 ⟨rfl, hb2⟩
          have hst2 := hst.step hb2
          by_cases hh : h j k = true
          · have HH := Lib.hid hh
            have ht : (z == s) = true := by
              have := HH.out
              rw [EH.out] at this
              rw [HZ.out]
              simpa using this
            clear hh
            obtain ⟨c1, v, r1, r2, r3⟩ := FIN.out _ hst2
            have R1 := Lib.hid r1
            have R2 := Lib.hid r2
            have R3 := Lib.hid r3
            clear r1 r2 r3
            by_cases hin : inSh j k = true
            · go_wp2_with fail
              refine (l9Add_yes g j k (grid2 (cellF h) k j) v _ hin hlt2 hlt R1.out (grid2_len _ _ _) R2.out).mono ?_
              rintro e w3 ⟨rfl, hr3, hg3⟩
              go_wp2
              go_roundw
              case rel =>
                refine ⟨j + 1, by omega, by go_num, ?_⟩
                rw [R3.out, ← cellF_yes hin HH.out, grid2_set] at hr3
                exact hst2.grown hgw HL.out hg3 hr3
              case measure => simp [intOf]; omega
            · go_wp2_with fail
              refine (l9Add_no g j k _ hin).mono ?_
              rintro e w3 ⟨rfl, hb3⟩
              go_wp2
              go_roundw
              case rel =>
                refine ⟨j + 1, by omega, by go_num, ?_⟩
                rw [grid2_keep (cellF h) k j (cellF_no1 hin)]
                exact hst2.step hb3
              case measure => simp [intOf]; omega
          · have HH := Lib.hid hh
            have ht : (z == s) = false := by
              have := HH.out
              rw [EH.out] at this
              rw [HZ.out]
              simpa using this
            go_wp2
            go_roundw
            case rel =>
              refine ⟨j + 1, by omega, by go_num, ?_⟩
              rw [grid2_keep (cellF h) k j (cellF_no2 HH.out)]
              exact hst2
            case measure => simp [intOf]; omega
        · obtain rfl : j = 20 := by omega
          go_wp2
          go_roundw
          case rel => exact ⟨k + 1, by omega, by go_num, by rw [← grid2_row _ (cellF_zero h)]; exact hst⟩
          case measure => simp [intOf]; omega
    · obtain rfl : k = 24 := by omega
      have c1 : wr.cell? ⟨V, 0, none⟩ = some (.slice (some ⟨g, 0, none⟩) 24 24) := cell_of (hst.keep _ MV.out) 0
      have c2 := frozen_of (hst.keep _ MS.out) 0
      have c3 : wr.cell? ⟨w.heap.size + 1, 0, none⟩ = some (.slice none 0 0) := cell_of (hst.keep _ MS.out) 0
      have hSg : w.heap.size + 1 ≠ g := HL.out _ MS.out
      go_wp2
      refine bodyPost_ret (v := .tuple #[.agg #[.slice (some ⟨g, 0, none⟩) 24 24], .bool true]) (by simp [results, Try.results28, go_sem, c3]) rfl ⟨_, rfl, ?_, ?_⟩
      · have hr := hst.row
        rw [grid2_all] at hr
        have ho := OwnI.blk (B := g) (zs := regRows h) hr (Nat.le_refl _) (by simp [regRows_len, maxLen])
        rw [regRows_len] at ho
        exact OwnI.base (World.ownsRow.kept ho (grownBy_set (World.grownBy.refl _ (some (w.heap.size + 1))) 0 _) (.inr (by simp only [Value.ownBlock, ne_eq, Option.some.injEq]; omega))) hgw
      · exact hst.below.setCell (by simp) _
theorem held8 {a w w' : World} {p0 p1 p2 p3 p4 p5 p6 p7 : Addr} {u0 u1 u2 u3 u4 u5 u6 u7 : Value} (h : w.cell? p0 = some u0 ∧ w.cell? p1 = some u1 ∧ w.cell? p2 = some u2 ∧ w.cell? p3 = some u3 ∧ w.cell? p4 = some u4 ∧ w.cell? p5 = some u5 ∧ w.cell? p6 = some u6 ∧ w.cell? p7 = some u7 ∧ Below a.heap.size a w) (hb : Below w.heap.size w w') : w'.cell? p0 = some u0 ∧ w'.cell? p1 = some u1 ∧ w'.cell? p2 = some u2 ∧ w'.cell? p3 = some u3 ∧ w'.cell? p4 = some u4 ∧ w'.cell? p5 = some u5 ∧ w'.cell? p6 = some u6 ∧ w'.cell? p7 = some u7 ∧ Below a.heap.size a w' := by
  obtain ⟨e0, e1, e2, e3, e4, e5, e6, e7, e⟩ := h
  exact ⟨keep_cell e0 hb, keep_cell e1 hb, keep_cell e2 hb, keep_cell e3 hb, keep_cell e4 hb, keep_cell e5 hb, keep_cell e6 hb, keep_cell e7 hb, Below_then e hb⟩
theorem cfSwung (args : Array Value) (w : World) : (callFunc 72 args).run Try.prog w = .ok (.enter 72 args) w := by kernel_rfl
set_option maxHeartbeats 1000000 in
theorem SwungCells_cl (D : Nat) (d l x y : Int) (w : World) (hd0 : 0 ≤ d) (hd7 : d ≤ 7) (h0 : 0 ≤ l) (h4 : l ≤ 4) (hx0 : 0 ≤ x) (hx1 : x ≤ 19) (hy0 : 0 ≤ y) (hy1 : y ≤ 23) (c1 : w.cell? ⟨D, 0, none⟩ = some (.int .i64 d)) (c2 : w.cell? ⟨D, 1, none⟩ = some (.int .i64 l)) :
    Calls Try.prog 72 #[.int .i64 x, .int .i64 y, .pointer (some ⟨D, 0, none⟩)] w fun e w' => e = .returned (.bool (partF d l x y != partF d 0 x y)) ∧ Below w.heap.size w w' := by
  have K1 := fun w => partAt_any d l x y hd0 hd7 h0 h4 hx0 hx1 hy0 hy1 w
  have K2 := fun w => partAt_any d 0 x y hd0 hd7 (by omega) (by omega) hx0 hx1 hy0 hy1 w
  by_cases hl : l = 0
  · subst hl
    generalize partF d 0 x y = z at *
    have K1' := Lib.hid K1
    clear K1 K2
    go_enter Try.func72, Try.ntmps72
    go_wp2
    go_region_held3 (fun w' => w'.cell? ⟨D, 0, none⟩ = some (.int .i64 d) ∧ w'.cell? ⟨D, 1, none⟩ = some (.int .i64 0) ∧ Below w.heap.size w w') (first | assumption | exact held2 (by assumption) (by assumption) | exact ⟨c1, c2, (Below.refl _ _).drew⟩) (first | (go_at_call 47; (with_reducible refine (K1'.out _).mono ?_); rintro e w3 ⟨rfl, hb3⟩))
    go_wp2
    go_ret
    exact ⟨by first | rfl | simp, And.right (And.right (by assumption))⟩
  · obtain ⟨z1, hz1⟩ : ∃ z, z = partF d l x y := ⟨_, rfl⟩
    obtain ⟨z2, hz2⟩ : ∃ z, z = partF d 0 x y := ⟨_, rfl⟩
    rw [← hz1] at K1 ⊢
    rw [← hz2] at K2 ⊢
    have K1' := Lib.hid K1
    have K2' := Lib.hid K2
    clear K1 K2 hz1 hz2
    go_enter Try.func72, Try.ntmps72
    go_wp2
    go_region_held3 (fun w' => w'.cell? ⟨D, 0, none⟩ = some (.int .i64 d) ∧ w'.cell? ⟨D, 1, none⟩ = some (.int .i64 l) ∧ Below w.heap.size w w') (first | assumption | exact held2 (by assumption) (by assumption) | exact ⟨c1, c2, (Below.refl _ _).drew⟩) (first | (go_at_call 47; first | ((with_reducible refine (K1'.out _).mono ?_); rintro e w3 ⟨rfl, hb3⟩) | ((with_reducible refine (K2'.out _).mono ?_); rintro e w4 ⟨rfl, hb4⟩)))
    go_wp2
    go_ret
    exact ⟨rfl, And.right (And.right (by assumption))⟩
set_option maxHeartbeats 2000000 in
theorem SwungCells_yes (d l p q : Int) (w : World) (hf : fieldOk d l p q = true) : Calls Try.prog 38 #[.agg #[.int .i64 d, .int .i64 l, .int .i64 p, .int .i64 q]] w (RegOk w (regRows (fun x y => partF d l x y != partF d 0 x y)) true) := by
  obtain ⟨⟨hd0, hd7⟩, ⟨h0, h4⟩, _, _⟩ := fieldOk_bd hf
  have HC : ∀ (x y : Int) (w' : World), 0 ≤ x → x ≤ 19 → 0 ≤ y → y ≤ 23 → Below ((w.alloc (Obj.cells #[.int .i64 d, .int .i64 l, .int .i64 p, .int .i64 q] 43)).alloc (Obj.cells #[.slice none 0 0] 28)).heap.size ((w.alloc (Obj.cells #[.int .i64 d, .int .i64 l, .int .i64 p, .int .i64 q] 43)).alloc (Obj.cells #[.slice none 0 0] 28)) w' → Calls Try.prog 72 (#[.int .i64 x, .int .i64 y] ++ #[.pointer (some ⟨w.heap.size, 0, none⟩)]) w' fun e w'' => e = .returned (.bool ((fun x y => partF d l x y != partF d 0 x y) x y)) ∧ Below w'.heap.size w' w'' := by
    intro x y w' a1 a2 a3 a4 hb
    show Calls Try.prog 72 #[.int .i64 x, .int .i64 y, .pointer (some ⟨w.heap.size, 0, none⟩)] w' _
    obtain ⟨hc1, hf1⟩ := bcell hb
    have e0 := hc1 (w.heap.size) 0 (by first | omega | (simp; done) | (simp; omega))
    rw [show ((w.alloc (Obj.cells #[.int .i64 d, .int .i64 l, .int .i64 p, .int .i64 q] 43)).alloc (Obj.cells #[.slice none 0 0] 28)).cell? ⟨w.heap.size, 0, none⟩ = (#[.int .i64 d, .int .i64 l, .int .i64 p, .int .i64 q])[0]? from by simp [go_sem]] at e0
    have e1 := hc1 (w.heap.size) 1 (by first | omega | (simp; done) | (simp; omega))
    rw [show ((w.alloc (Obj.cells #[.int .i64 d, .int .i64 l, .int .i64 p, .int .i64 q] 43)).alloc (Obj.cells #[.slice none 0 0] 28)).cell? ⟨w.heap.size, 1, none⟩ = (#[.int .i64 d, .int .i64 l, .int .i64 p, .int .i64 q])[1]? from by simp [go_sem]] at e1
    exact SwungCells_cl w.heap.size d l x y w' hd0 hd7 h0 h4 a1 a2 a3 a4 e0 e1
  have HC' := Lib.hid HC
  clear HC
  go_enter Try.func38, Try.ntmps38
  go_wp2_with (first | (go_at_call 65; refine (IsValidField_any _ _ _ _ _).mono ?_; rintro e wx ⟨rfl, hbx⟩; obtain ⟨hc1, hf1⟩ := bcell hbx; have hz1 : w.heap.size + 1 < wx.heap.size := by have := hbx.size; simp at this; omega) | fail)
  refine (regionOf_any 72 #[.pointer (some ⟨w.heap.size, 0, none⟩)] (fun x y => partF d l x y != partF d 0 x y) _ cfSwung (fun x y w' a1 a2 a3 a4 hb => HC'.out x y w' a1 a2 a3 a4 (Below_then hbx hb))).mono ?_
  rintro e w1 ⟨v, rfl, ho, hb⟩
  obtain ⟨A, c, rfl, -⟩ := ho.form
  have hbW := Below_then hbx hb
  clear hc1 hf1
  obtain ⟨hc1, hf1⟩ := bcell hbW
  have hz : w.heap.size + 1 < w1.heap.size := by have := hbW.size; simp at this; omega
  have hzx := hbx.size
  simp only [World.size_alloc] at hzx
  go_wp2
  exact bodyPost_ret (v := .tuple #[.agg #[.slice A (regRows (fun x y => partF d l x y != partF d 0 x y)).length c], .bool true]) (by simp [results, Try.results38, go_sem, hc1]) rfl ⟨_, rfl, OwnI.base (ownsRow_setCell_below ho (show w.heap.size + 1 < _ by omega) _) (by omega), by
    refine Below.setCell (Below_then (a := w) ?_ hbW) (by first | omega | (simp; done) | (simp; omega)) _
    (repeat (first | exact Below.refl _ _ | assumption | refine Below_al ?_ _ | refine Below.drew ?_ | refine Below_then ?_ (by assumption) | refine Below.setCell ?_ (by first | omega | (simp; done) | (simp; omega)) _))⟩
theorem SwungCells_no (d l p q : Int) (w : World) (hn : ¬ ((fieldOk d l p q = true))) : Calls Try.prog 38 #[.agg #[.int .i64 d, .int .i64 l, .int .i64 p, .int .i64 q]] w (RegOk w [] false) := by
  have g0 := hn
  clear hn
  go_enter Try.func38, Try.ntmps38
  go_wp2_with (first | (go_at_call 65; refine (IsValidField_any _ _ _ _ _).mono ?_; rintro e wx ⟨rfl, hbx⟩; obtain ⟨hc1, hf1⟩ := bcell hbx; have hz1 : w.heap.size + 1 < wx.heap.size := by have := hbx.size; simp at this; omega) | fail)
  all_goals exact bodyPost_ret (v := .tuple #[.agg #[.slice none 0 0], .bool false]) (by simp [results, Try.results38, go_sem, hc1]) rfl ⟨_, rfl, OwnI.nil _ _ _, by (repeat (first | exact Below.refl _ _ | assumption | refine Below_al ?_ _ | refine Below.drew ?_ | refine Below_then ?_ (by assumption) | refine Below.setCell ?_ (by first | omega | (simp; done) | (simp; omega)) _))⟩
theorem specSwungCells_no (d l p q : Int) (w : World) (hn : ¬ ((fieldOk d l p q = true))) : Calls Try.prog 39 #[.agg #[.int .i64 d, .int .i64 l, .int .i64 p, .int .i64 q]] w (RegOk w [] false) := by
  have g0 := hn
  clear hn
  go_enter Try.func39, Try.ntmps39
  go_wp2_with (first | (go_at_call 67; refine (l3Good_any _ _ _ _ _).mono ?_; rintro e wx ⟨rfl, hbx⟩; obtain ⟨hc1, hf1⟩ := bcell hbx; have hz1 : w.heap.size + 1 < wx.heap.size := by have := hbx.size; simp at this; omega) | fail)
  all_goals exact bodyPost_ret (v := .tuple #[.agg #[.slice none 0 0], .bool false]) (by simp [results, Try.results39, go_sem, hc1]) rfl ⟨_, rfl, OwnI.nil _ _ _, by (repeat (first | exact Below.refl _ _ | assumption | refine Below_al ?_ _ | refine Below.drew ?_ | refine Below_then ?_ (by assumption) | refine Below.setCell ?_ (by first | omega | (simp; done) | (simp; omega)) _))⟩
set_option maxHeartbeats 2000000 in
theorem specSwungCells_yes (d l p q : Int) (w : World) (hf : fieldOk d l p q = true) :
    Calls Try.prog 39 #[.agg #[.int .i64 d, .int .i64 l, .int .i64 p, .int .i64 q]] w (RegOk w (regRows (fun x y => partF d l x y != partF d 0 x y)) true) := by
  obtain ⟨⟨hd0, hd7⟩, ⟨h0, h4⟩, _, _⟩ := fieldOk_bd hf
  obtain ⟨h, eh⟩ : ∃ h : Int → Int → Bool, h = (fun x y => partF d l x y != partF d 0 x y) := ⟨_, rfl⟩
  rw [← eh]
  have EH := Lib.hid eh
  clear eh
  go_enter Try.func39, Try.ntmps39
  go_wp2_with (first | (go_at_call 67; refine (l3Good_any _ _ _ _ _).mono ?_; rintro e wx ⟨rfl, hbx⟩; obtain ⟨hc1, hf1⟩ := bcell hbx; have hz1 : w.heap.size + 1 < wx.heap.size := by have := hbx.size; simp at this; omega) | fail)
  refine (l9Empty_any _).mono ?_
  rintro e w1 ⟨g, rfl, hg, hrow, hb1⟩
  have hz1 := hb1.size
  have hbx : Below ((w.alloc (Obj.cells #[.int .i64 d, .int .i64 l, .int .i64 p, .int .i64 q] 43)).alloc (Obj.cells #[.slice none 0 0] 28)).heap.size ((w.alloc (Obj.cells #[.int .i64 d, .int .i64 l, .int .i64 p, .int .i64 q] 43)).alloc (Obj.cells #[.slice none 0 0] 28)) _ := hbx
  have hzx := hbx.size
  simp only [World.size_alloc] at hzx
  have hzy := hb1.size
  (try simp only [World.size_alloc] at hzy)
  have hgy := hg
  (try simp only [World.size_alloc] at hgy)
  have hgl := heap_lt hrow
  go_wp2_with fail
  obtain ⟨V, eV⟩ : ∃ V, V = w1.heap.size := ⟨_, rfl⟩
  rw [← eV]
  obtain ⟨L, eL⟩ : ∃ L : List (Nat × Obj), L = [(w.heap.size + 1, Obj.cells #[.slice none 0 0] 28 (0, 0)), (V, Obj.cells #[.slice (some ⟨g, 0, none⟩) 24 24] 28 (0, 0)), (w.heap.size, Obj.cells #[.int .i64 d, .int .i64 l, .int .i64 p, .int .i64 q] 43 (0, 0)), (wx.heap.size, Obj.cells #[.int .i64 d, .int .i64 0, .int .i64 p, .int .i64 q] 43 (0, 0))] := ⟨_, rfl⟩
  have hL : ∀ p ∈ L, p.1 ≠ g := by
    rw [eL]
    intro p hp
    simp only [List.mem_cons, List.not_mem_nil, or_false] at hp
    rcases hp with rfl | rfl | rfl | rfl
    all_goals (show _ ≠ g; omega)
  have mS : (w.heap.size + 1, Obj.cells #[.slice none 0 0] 28 (0, 0)) ∈ L := by rw [eL]; simp
  have mV : (V, Obj.cells #[.slice (some ⟨g, 0, none⟩) 24 24] 28 (0, 0)) ∈ L := by rw [eL]; simp
  have mB0 : (w.heap.size, Obj.cells #[.int .i64 d, .int .i64 l, .int .i64 p, .int .i64 q] 43 (0, 0)) ∈ L := by rw [eL]; simp
  have mB1 : (wx.heap.size, Obj.cells #[.int .i64 d, .int .i64 0, .int .i64 p, .int .i64 q] 43 (0, 0)) ∈ L := by rw [eL]; simp
  have HL := Lib.hid hL
  have MS := Lib.hid mS
  have MV := Lib.hid mV
  clear hL mS mV
  have MB0 := Lib.hid mB0
  clear mB0
  have MB1 := Lib.hid mB1
  clear mB1
  have h0 : RegSt w g L (grid2 (cellF h) 0 0) (w1.alloc (.cells #[.slice (some ⟨g, 0, none⟩) 24 24] 28)) := by
    rw [grid2_zero _ (cellF_zero h)]
    refine ⟨?_, ?_, ?_⟩
    · rw [heap_miss _ _ _ (by omega), hrow]
    · rw [eL]
      intro p hp
      simp only [List.mem_cons, List.not_mem_nil, or_false] at hp
      rcases hp with rfl | rfl | rfl | rfl
      all_goals (try dsimp only)
      all_goals first | (rw [eV]; exact heap_hit _ _ _ rfl) | (rw [heap_miss _ _ _ (by omega), hb1.block _ (by first | omega | (simp only [World.size_alloc]; done) | (simp only [World.size_alloc]; omega) | (simp; done) | (simp; omega))]; repeat (first | rw [heap_hit _ _ _ (by first | omega | (simp only [World.size_alloc]; done) | (simp only [World.size_alloc]; omega) | (simp; done) | (simp; omega))] | rw [heap_miss _ _ _ (by first | omega | (simp only [World.size_alloc]; done) | (simp only [World.size_alloc]; omega) | (simp; done) | (simp; omega))] | rw [hbx.block _ (by first | omega | (simp only [World.size_alloc]; done) | (simp only [World.size_alloc]; omega) | (simp; done) | (simp; omega))]))
    · exact Below_al (Below_then (Below_al (Below_then (by (repeat (first | exact Below.refl _ _ | assumption | refine Below_al ?_ _ | refine Below.drew ?_ | refine Below_then ?_ (by assumption) | refine Below.setCell ?_ (by first | omega | (simp; done) | (simp; omega)) _))) hbx) _) hb1) _
  have hgw : w.heap.size ≤ g := by omega
  have hVg : V ≠ g := by omega
  have H0 := Lib.hid h0
  clear h0 eL hrow hb1 hz1 hg hgl eV hbx hzx hzy hgy hc1 hf1
  go_loopw [6] (fun i wr => ∃ k : Nat, k ≤ 24 ∧ i = .int .i64 k ∧ RegSt w g L (grid2 (cellF h) k 0) wr) (fun i _ => 24 - (intOf i).toNat)
  case atStart => exact ⟨0, by omega, rfl, H0.out⟩
  case round =>
    clear H0
    obtain ⟨k, hk, rfl, hst⟩ := hrel
    by_cases hlt : k < 24
    · have hd : decide ((k : Int) < 24) = true := by simp; omega
      go_wp2_with fail
      clear hd
      go_loopw [7] (fun i wr => ∃ j : Nat, j ≤ 20 ∧ i = .int .i64 j ∧ RegSt w g L (grid2 (cellF h) k j) wr) (fun i _ => 20 - (intOf i).toNat)
      case atStart => exact ⟨0, by omega, rfl, hst⟩
      case round =>
        clear hst
        obtain ⟨j, hj, rfl, hst⟩ := hrel
        by_cases hlt2 : j < 20
        · have hd2 : decide ((j : Int) < 20) = true := by simp; omega
          have fin : ∀ (wq : World), RegSt w g L (grid2 (cellF h) k j) wq → (wq.cell? ⟨V, 0, none⟩ = some (.slice (some ⟨g, 0, none⟩) 24 24)) ∧ ∃ v, wq.heap[g]? = some (.cells (ints (grid2 (cellF h) k j)) 3 (0, 0)) ∧ (grid2 (cellF h) k j)[k]? = some v ∧ v = cellF h k j := fun wq hq =>
            ⟨cell_of (hq.keep _ MV.out) 0, cellF h k j, hq.row, by rw [List.getElem?_eq_getElem (by rw [grid2_len]; omega), grid2_get], rfl⟩
          have FIN := Lib.hid fin
          clear fin
          obtain ⟨z1, hz1⟩ : ∃ z, z = partF d l j k := ⟨_, rfl⟩
          obtain ⟨z2, hz2⟩ : ∃ z, z = partF d 0 j k := ⟨_, rfl⟩
          have K1 := fun w => l10Part_any d l p q j k hd0 hd7 h0 h4 (by omega) (by omega) (by omega) (by omega) w
          have K2 := fun w => l10Part_any d 0 p q j k hd0 hd7 (by omega) (by omega) (by omega) (by omega) (by omega) (by omega) w
          rw [← hz1] at K1
          rw [← hz2] at K2
          have HZ1 := Lib.hid hz1
          have HZ2 := Lib.hid hz2
          have K1' := Lib.hid K1
          have K2' := Lib.hid K2
          clear hz1 hz2 K1 K2
          have f0 : wr.cell? ⟨w.heap.size, 0, none⟩ = some (.int .i64 d) := cell_of (hst.keep _ MB0.out) 0
          have f1 : wr.cell? ⟨w.heap.size, 1, none⟩ = some (.int .i64 l) := cell_of (hst.keep _ MB0.out) 1
          have f2 : wr.cell? ⟨w.heap.size, 2, none⟩ = some (.int .i64 p) := cell_of (hst.keep _ MB0.out) 2
          have f3 : wr.cell? ⟨w.heap.size, 3, none⟩ = some (.int .i64 q) := cell_of (hst.keep _ MB0.out) 3
          have f4 : wr.cell? ⟨wx.heap.size, 0, none⟩ = some (.int .i64 d) := cell_of (hst.keep _ MB1.out) 0
          have f5 : wr.cell? ⟨wx.heap.size, 1, none⟩ = some (.int .i64 0) := cell_of (hst.keep _ MB1.out) 1
          have f6 : wr.cell? ⟨wx.heap.size, 2, none⟩ = some (.int .i64 p) := cell_of (hst.keep _ MB1.out) 2
          have f7 : wr.cell? ⟨wx.heap.size, 3, none⟩ = some (.int .i64 q) := cell_of (hst.keep _ MB1.out) 3
          go_wp2_with fail
          go_region_held3 (fun w' => w'.cell? ⟨w.heap.size, 0, none⟩ = some (.int .i64 d) ∧ w'.cell? ⟨w.heap.size, 1, none⟩ = some (.int .i64 l) ∧ w'.cell? ⟨w.heap.size, 2, none⟩ = some (.int .i64 p) ∧ w'.cell? ⟨w.heap.size, 3, none⟩ = some (.int .i64 q) ∧ w'.cell? ⟨wx.heap.size, 0, none⟩ = some (.int .i64 d) ∧ w'.cell? ⟨wx.heap.size, 1, none⟩ = some (.int .i64 0) ∧ w'.cell? ⟨wx.heap.size, 2, none⟩ = some (.int .i64 p) ∧ w'.cell? ⟨wx.heap.size, 3, none⟩ = some (.int .i64 q) ∧ Below wr.heap.size wr w') (first | assumption | exact held8 (by assumption) (by assumption) | exact ⟨f0, f1, f2, f3, f4, f5, f6, f7, (Below.refl _ _).drew⟩) (first | (go_at_call 68; first | ((with_reducible refine (K1'.out _).mono ?_); rintro e w3 ⟨rfl, hb3⟩) | ((with_reducible refine (K2'.out _).mono ?_); rintro e w4 ⟨rfl, hb4⟩)))
          obtain ⟨-, -, -, -, -, -, -, -, hb2⟩ : _ ∧ _ ∧ _ ∧ _ ∧ _ ∧ _ ∧ _ ∧ _ ∧ Below wr.heap.size wr _ := by assumption
          clear f0 f1 f2 f3 f4 f5 f6 f7
          have hst2 := hst.step hb2
          by_cases hh : h j k = true
          · have HH := Lib.hid hh
            have ht : (z1 != z2) = true := by
              have := HH.out
              rw [EH.out] at this
              rw [HZ1.out, HZ2.out]
              simpa using this
            clear hh
            obtain ⟨c1, v, r1, r2, r3⟩ := FIN.out _ hst2
            have R1 := Lib.hid r1
            have R2 := Lib.hid r2
            have R3 := Lib.hid r3
            clear r1 r2 r3
            by_cases hin : inSh j k = true
            · go_wp2_with fail
              refine (l9Add_yes g j k (grid2 (cellF h) k j) v _ hin hlt2 hlt R1.out (grid2_len _ _ _) R2.out).mono ?_
              rintro e w3 ⟨rfl, hr3, hg3⟩
              go_wp2
              go_roundw
              case rel =>
                refine ⟨j + 1, by omega, by go_num, ?_⟩
                rw [R3.out, ← cellF_yes hin HH.out, grid2_set] at hr3
                exact hst2.grown hgw HL.out hg3 hr3
              case measure => simp [intOf]; omega
            · go_wp2_with fail
              refine (l9Add_no g j k _ hin).mono ?_
              rintro e w3 ⟨rfl, hb3⟩
              go_wp2
              go_roundw
              case rel =>
                refine ⟨j + 1, by omega, by go_num, ?_⟩
                rw [grid2_keep (cellF h) k j (cellF_no1 hin)]
                exact hst2.step hb3
              case measure => simp [intOf]; omega
          · have HH := Lib.hid hh
            have ht : (z1 != z2) = false := by
              have := HH.out
              rw [EH.out] at this
              rw [HZ1.out, HZ2.out]
              simpa using this
            go_wp2
            go_roundw
            case rel =>
              refine ⟨j + 1, by omega, by go_num, ?_⟩
              rw [grid2_keep (cellF h) k j (cellF_no2 HH.out)]
              exact hst2
            case measure => simp [intOf]; omega
        · obtain rfl : j = 20 := by omega
          go_wp2
          go_roundw
          case rel => exact ⟨k + 1, by omega, by go_num, by rw [← grid2_row _ (cellF_zero h)]; exact hst⟩
          case measure => simp [intOf]; omega
    · obtain rfl : k = 24 := by omega
      have c1 : wr.cell? ⟨V, 0, none⟩ = some (.slice (some ⟨g, 0, none⟩) 24 24) := cell_of (hst.keep _ MV.out) 0
      have c2 := frozen_of (hst.keep _ MS.out) 0
      have c3 : wr.cell? ⟨w.heap.size + 1, 0, none⟩ = some (.slice none 0 0) := cell_of (hst.keep _ MS.out) 0
      have hSg : w.heap.size + 1 ≠ g := HL.out _ MS.out
      go_wp2
      refine bodyPost_ret (v := .tuple #[.agg #[.slice (some ⟨g, 0, none⟩) 24 24], .bool true]) (by simp [results, Try.results39, go_sem, c3]) rfl ⟨_, rfl, ?_, ?_⟩
      · have hr := hst.row
        rw [grid2_all] at hr
        have ho := OwnI.blk (B := g) (zs := regRows h) hr (Nat.le_refl _) (by simp [regRows_len, maxLen])
        rw [regRows_len] at ho
        exact OwnI.base (World.ownsRow.kept ho (grownBy_set (World.grownBy.refl _ (some (w.heap.size + 1))) 0 _) (.inr (by simp only [Value.ownBlock, ne_eq, Option.some.injEq]; omega))) hgw
      · exact hst.below.setCell (by simp) _
end Go.Proofs.Ytfmigkiliggdhaa
