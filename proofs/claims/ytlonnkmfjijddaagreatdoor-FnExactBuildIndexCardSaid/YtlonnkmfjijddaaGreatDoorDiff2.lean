/- Contracts: differences of arms, both sides. -/
import Derived.Test.YtlonnkmfjijddaaGreatDoorDiff
namespace Go.Proofs.YtlonnkmfjijddaaGreatDoor
open Go.ChangeShapes Go.WideShapes Go.ChangeAt Go.RowKit
set_option linter.unusedVariables false
theorem heldC22 {a w w' : World} {p0 p1 p2 p3 p4 p5 p6 p7 p8 p9 p10 p11 p12 p13 p14 p15 p16 p17 p18 p19 p20 p21 : Addr} {u0 u1 u2 u3 u4 u5 u6 u7 u8 u9 u10 u11 u12 u13 u14 u15 u16 u17 u18 u19 u20 u21 : Value} (h : w.cell? p0 = some u0 ∧ w.cell? p1 = some u1 ∧ w.cell? p2 = some u2 ∧ w.cell? p3 = some u3 ∧ w.cell? p4 = some u4 ∧ w.cell? p5 = some u5 ∧ w.cell? p6 = some u6 ∧ w.cell? p7 = some u7 ∧ w.cell? p8 = some u8 ∧ w.cell? p9 = some u9 ∧ w.cell? p10 = some u10 ∧ w.cell? p11 = some u11 ∧ w.cell? p12 = some u12 ∧ w.cell? p13 = some u13 ∧ w.cell? p14 = some u14 ∧ w.cell? p15 = some u15 ∧ w.cell? p16 = some u16 ∧ w.cell? p17 = some u17 ∧ w.cell? p18 = some u18 ∧ w.cell? p19 = some u19 ∧ w.cell? p20 = some u20 ∧ w.cell? p21 = some u21 ∧ Below a.heap.size a w) (hb : Below w.heap.size w w') : w'.cell? p0 = some u0 ∧ w'.cell? p1 = some u1 ∧ w'.cell? p2 = some u2 ∧ w'.cell? p3 = some u3 ∧ w'.cell? p4 = some u4 ∧ w'.cell? p5 = some u5 ∧ w'.cell? p6 = some u6 ∧ w'.cell? p7 = some u7 ∧ w'.cell? p8 = some u8 ∧ w'.cell? p9 = some u9 ∧ w'.cell? p10 = some u10 ∧ w'.cell? p11 = some u11 ∧ w'.cell? p12 = some u12 ∧ w'.cell? p13 = some u13 ∧ w'.cell? p14 = some u14 ∧ w'.cell? p15 = some u15 ∧ w'.cell? p16 = some u16 ∧ w'.cell? p17 = some u17 ∧ w'.cell? p18 = some u18 ∧ w'.cell? p19 = some u19 ∧ w'.cell? p20 = some u20 ∧ w'.cell? p21 = some u21 ∧ Below a.heap.size a w' := by
  obtain ⟨e0, e1, e2, e3, e4, e5, e6, e7, e8, e9, e10, e11, e12, e13, e14, e15, e16, e17, e18, e19, e20, e21, e⟩ := h
  exact ⟨keep_cell e0 hb, keep_cell e1 hb, keep_cell e2 hb, keep_cell e3 hb, keep_cell e4 hb, keep_cell e5 hb, keep_cell e6 hb, keep_cell e7 hb, keep_cell e8 hb, keep_cell e9 hb, keep_cell e10 hb, keep_cell e11 hb, keep_cell e12 hb, keep_cell e13 hb, keep_cell e14 hb, keep_cell e15 hb, keep_cell e16 hb, keep_cell e17 hb, keep_cell e18 hb, keep_cell e19 hb, keep_cell e20 hb, keep_cell e21 hb, Below_then e hb⟩
theorem heldC30 {a w w' : World} {p0 p1 p2 p3 p4 p5 p6 p7 p8 p9 p10 p11 p12 p13 p14 p15 p16 p17 p18 p19 p20 p21 p22 p23 p24 p25 p26 p27 p28 p29 : Addr} {u0 u1 u2 u3 u4 u5 u6 u7 u8 u9 u10 u11 u12 u13 u14 u15 u16 u17 u18 u19 u20 u21 u22 u23 u24 u25 u26 u27 u28 u29 : Value} (h : w.cell? p0 = some u0 ∧ w.cell? p1 = some u1 ∧ w.cell? p2 = some u2 ∧ w.cell? p3 = some u3 ∧ w.cell? p4 = some u4 ∧ w.cell? p5 = some u5 ∧ w.cell? p6 = some u6 ∧ w.cell? p7 = some u7 ∧ w.cell? p8 = some u8 ∧ w.cell? p9 = some u9 ∧ w.cell? p10 = some u10 ∧ w.cell? p11 = some u11 ∧ w.cell? p12 = some u12 ∧ w.cell? p13 = some u13 ∧ w.cell? p14 = some u14 ∧ w.cell? p15 = some u15 ∧ w.cell? p16 = some u16 ∧ w.cell? p17 = some u17 ∧ w.cell? p18 = some u18 ∧ w.cell? p19 = some u19 ∧ w.cell? p20 = some u20 ∧ w.cell? p21 = some u21 ∧ w.cell? p22 = some u22 ∧ w.cell? p23 = some u23 ∧ w.cell? p24 = some u24 ∧ w.cell? p25 = some u25 ∧ w.cell? p26 = some u26 ∧ w.cell? p27 = some u27 ∧ w.cell? p28 = some u28 ∧ w.cell? p29 = some u29 ∧ Below a.heap.size a w) (hb : Below w.heap.size w w') : w'.cell? p0 = some u0 ∧ w'.cell? p1 = some u1 ∧ w'.cell? p2 = some u2 ∧ w'.cell? p3 = some u3 ∧ w'.cell? p4 = some u4 ∧ w'.cell? p5 = some u5 ∧ w'.cell? p6 = some u6 ∧ w'.cell? p7 = some u7 ∧ w'.cell? p8 = some u8 ∧ w'.cell? p9 = some u9 ∧ w'.cell? p10 = some u10 ∧ w'.cell? p11 = some u11 ∧ w'.cell? p12 = some u12 ∧ w'.cell? p13 = some u13 ∧ w'.cell? p14 = some u14 ∧ w'.cell? p15 = some u15 ∧ w'.cell? p16 = some u16 ∧ w'.cell? p17 = some u17 ∧ w'.cell? p18 = some u18 ∧ w'.cell? p19 = some u19 ∧ w'.cell? p20 = some u20 ∧ w'.cell? p21 = some u21 ∧ w'.cell? p22 = some u22 ∧ w'.cell? p23 = some u23 ∧ w'.cell? p24 = some u24 ∧ w'.cell? p25 = some u25 ∧ w'.cell? p26 = some u26 ∧ w'.cell? p27 = some u27 ∧ w'.cell? p28 = some u28 ∧ w'.cell? p29 = some u29 ∧ Below a.heap.size a w' := by
  obtain ⟨e0, e1, e2, e3, e4, e5, e6, e7, e8, e9, e10, e11, e12, e13, e14, e15, e16, e17, e18, e19, e20, e21, e22, e23, e24, e25, e26, e27, e28, e29, e⟩ := h
  exact ⟨keep_cell e0 hb, keep_cell e1 hb, keep_cell e2 hb, keep_cell e3 hb, keep_cell e4 hb, keep_cell e5 hb, keep_cell e6 hb, keep_cell e7 hb, keep_cell e8 hb, keep_cell e9 hb, keep_cell e10 hb, keep_cell e11 hb, keep_cell e12 hb, keep_cell e13 hb, keep_cell e14 hb, keep_cell e15 hb, keep_cell e16 hb, keep_cell e17 hb, keep_cell e18 hb, keep_cell e19 hb, keep_cell e20 hb, keep_cell e21 hb, keep_cell e22 hb, keep_cell e23 hb, keep_cell e24 hb, keep_cell e25 hb, keep_cell e26 hb, keep_cell e27 hb, keep_cell e28 hb, keep_cell e29 hb, Below_then e hb⟩

theorem numI_yes {x y : Int} (h : x = y) : numI (x != y) = 0 := by simp [numI, h]
theorem if_bne (x y v : Int) : (if x = y then v else 2) = (bif (x != y) then 2 else v) := by
  by_cases h : x = y
  · subst h; simp
  · rw [if_neg h, show (x != y) = true from by simpa using h]; rfl
theorem numI_no {x y : Int} (h : ¬ x = y) : numI (x != y) = 1 := by simp [numI, h]
set_option maxHeartbeats 2000000 in
theorem l3Differences_any (d l p q d2 l2 p2 q2 : Int) (w : World) :
    Calls Tryz.prog 73 #[.agg #[.int .i64 d, .int .i64 l, .int .i64 p, .int .i64 q], .agg #[.int .i64 d2, .int .i64 l2, .int .i64 p2, .int .i64 q2]] w fun e w' => e = .returned (.int .i64 (fd d l p q d2 l2 p2 q2)) ∧ Below w.heap.size w w' := by
  obtain ⟨eb, heb⟩ : ∃ b, b = decide (tinL d p q = tinL d2 p2 q2) := ⟨_, rfl⟩
  have tl1 := tinL_len d p q
  have tl2 := tinL_len d2 p2 q2
  have KE := fun A A' c c' w h1 h2 => l1Same_any A A' c c' (tinL d p q) (tinL d2 p2 q2) w h1 h2 (by omega) (by omega)
  have KA := fun w => l3Tinctures_any d l p q w
  have KB := fun w => l3Tinctures_any d2 l2 p2 q2 w
  unfold fd
  rw [← heb] at KE ⊢
  generalize tinL d p q = L1 at *
  generalize tinL d2 p2 q2 = L2 at *
  have KE' := Lib.hid KE
  have KA' := Lib.hid KA
  have KB' := Lib.hid KB
  have n1 := numI_bd (d != d2)
  have n2 := numI_bd (l != l2)
  have n3 := numI_bd (!eb)
  clear KE KA KB heb
  cases eb
  all_goals
    by_cases hd : d = d2
    · by_cases hl : l = l2
      · skip
        subst hd
        subst hl
        go_enter Tryz.func73, Tryz.ntmps73
        go_wp2_with fail
        obtain ⟨w0, hw0⟩ : ∃ x, x = (w.alloc (.cells #[.int .i64 d, .int .i64 l, .int .i64 p, .int .i64 q] 43)).alloc (.cells #[.int .i64 d, .int .i64 l, .int .i64 p2, .int .i64 q2] 43) := ⟨_, rfl⟩
        rw [← hw0]
        have hF1 : w0.heap[w.heap.size]? = some (.cells #[.int .i64 d, .int .i64 l, .int .i64 p, .int .i64 q] 43 (0, 0)) := by rw [hw0]; exact heap_keepA (heap_hit _ _ _ rfl) _
        have hF2 : w0.heap[w.heap.size + 1]? = some (.cells #[.int .i64 d, .int .i64 l, .int .i64 p2, .int .i64 q2] 43 (0, 0)) := by rw [hw0]; exact heap_hit _ _ _ (by simp)
        have c0 := cell_of hF1 0
        have c1 := cell_of hF1 1
        have c2 := cell_of hF1 2
        have c3 := cell_of hF1 3
        have e0 := cell_of hF2 0
        have e1 := cell_of hF2 1
        have e2 := cell_of hF2 2
        have e3 := cell_of hF2 3
        have hT : Below w.heap.size w w0 := by rw [hw0]; (repeat (first | exact Below.refl _ _ | assumption | refine Below_al ?_ _ | refine Below.drew ?_ | refine Below_then ?_ (by assumption) | refine Below.setCell ?_ (by first | omega | (simp; done) | (simp; omega)) _))
        clear hF1 hF2 hw0
        go_region_held3 (fun w' => w'.cell? ⟨w.heap.size, 0, none⟩ = some (.int .i64 d) ∧ w'.cell? ⟨w.heap.size, 1, none⟩ = some (.int .i64 l) ∧ w'.cell? ⟨w.heap.size, 2, none⟩ = some (.int .i64 p) ∧ w'.cell? ⟨w.heap.size, 3, none⟩ = some (.int .i64 q) ∧ w'.cell? ⟨w.heap.size + 1, 0, none⟩ = some (.int .i64 d) ∧ w'.cell? ⟨w.heap.size + 1, 1, none⟩ = some (.int .i64 l) ∧ w'.cell? ⟨w.heap.size + 1, 2, none⟩ = some (.int .i64 p2) ∧ w'.cell? ⟨w.heap.size + 1, 3, none⟩ = some (.int .i64 q2) ∧ Below w0.heap.size w0 w') (first | assumption | exact heldC8 (by assumption) (by assumption) | exact ⟨c0, c1, c2, c3, e0, e1, e2, e3, Below.refl _ _⟩ | exact ⟨c0, c1, c2, c3, e0, e1, e2, e3, (Below.refl _ _).drew⟩) (first | (go_at_call 54; first | ((with_reducible refine (KA'.out _).mono ?_); rintro e x1 ⟨gA, rfl, rA, bA⟩; obtain ⟨hcA, hfA⟩ := bcell bA) | ((with_reducible refine (KB'.out _).mono ?_); rintro e x2 ⟨gB, rfl, rB, bB⟩; obtain ⟨hcB, hfB⟩ := bcell bB; have rA' := rA.below bB)) | (go_at_call 99; refine (KE'.out _ _ _ _ _ (by first | exact rA' | assumption) rB).mono ?_; rintro e x3 ⟨rfl, bE⟩))
        obtain ⟨-, -, -, -, -, -, -, -, sb⟩ : _ ∧ _ ∧ _ ∧ _ ∧ _ ∧ _ ∧ _ ∧ _ ∧ Below w0.heap.size w0 _ := (by assumption)
        go_wp2
        go_ret
        exact ⟨retI (by simp [numI, *]), by first | exact Below_then hT sb | exact Below_then (Below_then hT sb) (by assumption)⟩
      · skip
        subst hd
        have f2 : (l != l2) = true := by simpa using hl
        go_enter Tryz.func73, Tryz.ntmps73
        go_wp2_with fail
        obtain ⟨w0, hw0⟩ : ∃ x, x = (w.alloc (.cells #[.int .i64 d, .int .i64 l, .int .i64 p, .int .i64 q] 43)).alloc (.cells #[.int .i64 d, .int .i64 l2, .int .i64 p2, .int .i64 q2] 43) := ⟨_, rfl⟩
        rw [← hw0]
        have hF1 : w0.heap[w.heap.size]? = some (.cells #[.int .i64 d, .int .i64 l, .int .i64 p, .int .i64 q] 43 (0, 0)) := by rw [hw0]; exact heap_keepA (heap_hit _ _ _ rfl) _
        have hF2 : w0.heap[w.heap.size + 1]? = some (.cells #[.int .i64 d, .int .i64 l2, .int .i64 p2, .int .i64 q2] 43 (0, 0)) := by rw [hw0]; exact heap_hit _ _ _ (by simp)
        have c0 := cell_of hF1 0
        have c1 := cell_of hF1 1
        have c2 := cell_of hF1 2
        have c3 := cell_of hF1 3
        have e0 := cell_of hF2 0
        have e1 := cell_of hF2 1
        have e2 := cell_of hF2 2
        have e3 := cell_of hF2 3
        have hT : Below w.heap.size w w0 := by rw [hw0]; (repeat (first | exact Below.refl _ _ | assumption | refine Below_al ?_ _ | refine Below.drew ?_ | refine Below_then ?_ (by assumption) | refine Below.setCell ?_ (by first | omega | (simp; done) | (simp; omega)) _))
        clear hF1 hF2 hw0
        go_region_held3 (fun w' => w'.cell? ⟨w.heap.size, 0, none⟩ = some (.int .i64 d) ∧ w'.cell? ⟨w.heap.size, 1, none⟩ = some (.int .i64 l) ∧ w'.cell? ⟨w.heap.size, 2, none⟩ = some (.int .i64 p) ∧ w'.cell? ⟨w.heap.size, 3, none⟩ = some (.int .i64 q) ∧ w'.cell? ⟨w.heap.size + 1, 0, none⟩ = some (.int .i64 d) ∧ w'.cell? ⟨w.heap.size + 1, 1, none⟩ = some (.int .i64 l2) ∧ w'.cell? ⟨w.heap.size + 1, 2, none⟩ = some (.int .i64 p2) ∧ w'.cell? ⟨w.heap.size + 1, 3, none⟩ = some (.int .i64 q2) ∧ Below w0.heap.size w0 w') (first | assumption | exact heldC8 (by assumption) (by assumption) | exact ⟨c0, c1, c2, c3, e0, e1, e2, e3, Below.refl _ _⟩ | exact ⟨c0, c1, c2, c3, e0, e1, e2, e3, (Below.refl _ _).drew⟩) (first | (go_at_call 54; first | ((with_reducible refine (KA'.out _).mono ?_); rintro e x1 ⟨gA, rfl, rA, bA⟩; obtain ⟨hcA, hfA⟩ := bcell bA) | ((with_reducible refine (KB'.out _).mono ?_); rintro e x2 ⟨gB, rfl, rB, bB⟩; obtain ⟨hcB, hfB⟩ := bcell bB; have rA' := rA.below bB)) | (go_at_call 99; refine (KE'.out _ _ _ _ _ (by first | exact rA' | assumption) rB).mono ?_; rintro e x3 ⟨rfl, bE⟩))
        obtain ⟨-, -, -, -, -, -, -, -, sb⟩ : _ ∧ _ ∧ _ ∧ _ ∧ _ ∧ _ ∧ _ ∧ _ ∧ Below w0.heap.size w0 _ := (by assumption)
        go_wp2
        go_ret
        exact ⟨retI (by simp [numI, *]), by first | exact Below_then hT sb | exact Below_then (Below_then hT sb) (by assumption)⟩
    · by_cases hl : l = l2
      · skip
        have f1 : (d != d2) = true := by simpa using hd
        subst hl
        go_enter Tryz.func73, Tryz.ntmps73
        go_wp2_with fail
        obtain ⟨w0, hw0⟩ : ∃ x, x = (w.alloc (.cells #[.int .i64 d, .int .i64 l, .int .i64 p, .int .i64 q] 43)).alloc (.cells #[.int .i64 d2, .int .i64 l, .int .i64 p2, .int .i64 q2] 43) := ⟨_, rfl⟩
        rw [← hw0]
        have hF1 : w0.heap[w.heap.size]? = some (.cells #[.int .i64 d, .int .i64 l, .int .i64 p, .int .i64 q] 43 (0, 0)) := by rw [hw0]; exact heap_keepA (heap_hit _ _ _ rfl) _
        have hF2 : w0.heap[w.heap.size + 1]? = some (.cells #[.int .i64 d2, .int .i64 l, .int .i64 p2, .int .i64 q2] 43 (0, 0)) := by rw [hw0]; exact heap_hit _ _ _ (by simp)
        have c0 := cell_of hF1 0
        have c1 := cell_of hF1 1
        have c2 := cell_of hF1 2
        have c3 := cell_of hF1 3
        have e0 := cell_of hF2 0
        have e1 := cell_of hF2 1
        have e2 := cell_of hF2 2
        have e3 := cell_of hF2 3
        have hT : Below w.heap.size w w0 := by rw [hw0]; (repeat (first | exact Below.refl _ _ | assumption | refine Below_al ?_ _ | refine Below.drew ?_ | refine Below_then ?_ (by assumption) | refine Below.setCell ?_ (by first | omega | (simp; done) | (simp; omega)) _))
        clear hF1 hF2 hw0
        go_region_held3 (fun w' => w'.cell? ⟨w.heap.size, 0, none⟩ = some (.int .i64 d) ∧ w'.cell? ⟨w.heap.size, 1, none⟩ = some (.int .i64 l) ∧ w'.cell? ⟨w.heap.size, 2, none⟩ = some (.int .i64 p) ∧ w'.cell? ⟨w.heap.size, 3, none⟩ = some (.int .i64 q) ∧ w'.cell? ⟨w.heap.size + 1, 0, none⟩ = some (.int .i64 d2) ∧ w'.cell? ⟨w.heap.size + 1, 1, none⟩ = some (.int .i64 l) ∧ w'.cell? ⟨w.heap.size + 1, 2, none⟩ = some (.int .i64 p2) ∧ w'.cell? ⟨w.heap.size + 1, 3, none⟩ = some (.int .i64 q2) ∧ Below w0.heap.size w0 w') (first | assumption | exact heldC8 (by assumption) (by assumption) | exact ⟨c0, c1, c2, c3, e0, e1, e2, e3, Below.refl _ _⟩ | exact ⟨c0, c1, c2, c3, e0, e1, e2, e3, (Below.refl _ _).drew⟩) (first | (go_at_call 54; first | ((with_reducible refine (KA'.out _).mono ?_); rintro e x1 ⟨gA, rfl, rA, bA⟩; obtain ⟨hcA, hfA⟩ := bcell bA) | ((with_reducible refine (KB'.out _).mono ?_); rintro e x2 ⟨gB, rfl, rB, bB⟩; obtain ⟨hcB, hfB⟩ := bcell bB; have rA' := rA.below bB)) | (go_at_call 99; refine (KE'.out _ _ _ _ _ (by first | exact rA' | assumption) rB).mono ?_; rintro e x3 ⟨rfl, bE⟩))
        obtain ⟨-, -, -, -, -, -, -, -, sb⟩ : _ ∧ _ ∧ _ ∧ _ ∧ _ ∧ _ ∧ _ ∧ _ ∧ Below w0.heap.size w0 _ := (by assumption)
        go_wp2
        go_ret
        exact ⟨retI (by simp [numI, *]), by first | exact Below_then hT sb | exact Below_then (Below_then hT sb) (by assumption)⟩
      · skip
        have f1 : (d != d2) = true := by simpa using hd
        have f2 : (l != l2) = true := by simpa using hl
        go_enter Tryz.func73, Tryz.ntmps73
        go_wp2_with fail
        obtain ⟨w0, hw0⟩ : ∃ x, x = (w.alloc (.cells #[.int .i64 d, .int .i64 l, .int .i64 p, .int .i64 q] 43)).alloc (.cells #[.int .i64 d2, .int .i64 l2, .int .i64 p2, .int .i64 q2] 43) := ⟨_, rfl⟩
        rw [← hw0]
        have hF1 : w0.heap[w.heap.size]? = some (.cells #[.int .i64 d, .int .i64 l, .int .i64 p, .int .i64 q] 43 (0, 0)) := by rw [hw0]; exact heap_keepA (heap_hit _ _ _ rfl) _
        have hF2 : w0.heap[w.heap.size + 1]? = some (.cells #[.int .i64 d2, .int .i64 l2, .int .i64 p2, .int .i64 q2] 43 (0, 0)) := by rw [hw0]; exact heap_hit _ _ _ (by simp)
        have c0 := cell_of hF1 0
        have c1 := cell_of hF1 1
        have c2 := cell_of hF1 2
        have c3 := cell_of hF1 3
        have e0 := cell_of hF2 0
        have e1 := cell_of hF2 1
        have e2 := cell_of hF2 2
        have e3 := cell_of hF2 3
        have hT : Below w.heap.size w w0 := by rw [hw0]; (repeat (first | exact Below.refl _ _ | assumption | refine Below_al ?_ _ | refine Below.drew ?_ | refine Below_then ?_ (by assumption) | refine Below.setCell ?_ (by first | omega | (simp; done) | (simp; omega)) _))
        clear hF1 hF2 hw0
        go_region_held3 (fun w' => w'.cell? ⟨w.heap.size, 0, none⟩ = some (.int .i64 d) ∧ w'.cell? ⟨w.heap.size, 1, none⟩ = some (.int .i64 l) ∧ w'.cell? ⟨w.heap.size, 2, none⟩ = some (.int .i64 p) ∧ w'.cell? ⟨w.heap.size, 3, none⟩ = some (.int .i64 q) ∧ w'.cell? ⟨w.heap.size + 1, 0, none⟩ = some (.int .i64 d2) ∧ w'.cell? ⟨w.heap.size + 1, 1, none⟩ = some (.int .i64 l2) ∧ w'.cell? ⟨w.heap.size + 1, 2, none⟩ = some (.int .i64 p2) ∧ w'.cell? ⟨w.heap.size + 1, 3, none⟩ = some (.int .i64 q2) ∧ Below w0.heap.size w0 w') (first | assumption | exact heldC8 (by assumption) (by assumption) | exact ⟨c0, c1, c2, c3, e0, e1, e2, e3, Below.refl _ _⟩ | exact ⟨c0, c1, c2, c3, e0, e1, e2, e3, (Below.refl _ _).drew⟩) (first | (go_at_call 54; first | ((with_reducible refine (KA'.out _).mono ?_); rintro e x1 ⟨gA, rfl, rA, bA⟩; obtain ⟨hcA, hfA⟩ := bcell bA) | ((with_reducible refine (KB'.out _).mono ?_); rintro e x2 ⟨gB, rfl, rB, bB⟩; obtain ⟨hcB, hfB⟩ := bcell bB; have rA' := rA.below bB)) | (go_at_call 99; refine (KE'.out _ _ _ _ _ (by first | exact rA' | assumption) rB).mono ?_; rintro e x3 ⟨rfl, bE⟩))
        obtain ⟨-, -, -, -, -, -, -, -, sb⟩ : _ ∧ _ ∧ _ ∧ _ ∧ _ ∧ _ ∧ _ ∧ _ ∧ Below w0.heap.size w0 _ := (by assumption)
        go_wp2
        go_ret
        exact ⟨retI (by simp [numI, *]), by first | exact Below_then hT sb | exact Below_then (Below_then hT sb) (by assumption)⟩
theorem l4None_ok (c k a t : Int) (h : 1 ≤ c) (w : World) : Calls Tryz.prog 35 #[.agg #[.int .i64 c, .int .i64 k, .int .i64 a, .int .i64 t]] w fun e w' => e = .returned (.bool false) ∧ Below w.heap.size w w' :=
  (l4None_any c k a t w).mono fun _ _ ⟨he, hb⟩ => ⟨by rw [he]; exact ret_bool (by simp [groupNone]; omega), hb⟩
theorem l4None_no (w : World) : Calls Tryz.prog 35 #[.agg #[.int .i64 0, .int .i64 0, .int .i64 0, .int .i64 0]] w fun e w' => e = .returned (.bool true) ∧ Below w.heap.size w w' := l4None_any 0 0 0 0 w
set_option maxHeartbeats 4000000 in
theorem l4Differences_any (c k a t c2 k2 a2 t2 : Int) (w : World) (g1 : (c = 0 ∧ k = 0 ∧ a = 0 ∧ t = 0) ∨ 1 ≤ c) (g2 : (c2 = 0 ∧ k2 = 0 ∧ a2 = 0 ∧ t2 = 0) ∨ 1 ≤ c2) :
    Calls Tryz.prog 74 #[.agg #[.int .i64 c, .int .i64 k, .int .i64 a, .int .i64 t], .agg #[.int .i64 c2, .int .i64 k2, .int .i64 a2, .int .i64 t2]] w fun e w' => e = .returned (.int .i64 (gd c k a t c2 k2 a2 t2)) ∧ Below w.heap.size w w' := by
  rcases g1 with ⟨rfl, rfl, rfl, rfl⟩ | g1
  · rcases g2 with ⟨rfl, rfl, rfl, rfl⟩ | g2
    · rw [gd_same]
      have KA' := Lib.hid l4None_no
      have KB' := KA'
      go_enter Tryz.func74, Tryz.ntmps74
      go_wp2_with fail
      obtain ⟨w0, hw0⟩ : ∃ x, x = (w.alloc (.cells #[.int .i64 0, .int .i64 0, .int .i64 0, .int .i64 0] 45)).alloc (.cells #[.int .i64 0, .int .i64 0, .int .i64 0, .int .i64 0] 45) := ⟨_, rfl⟩
      rw [← hw0]
      have hF1 : w0.heap[w.heap.size]? = some (.cells #[.int .i64 0, .int .i64 0, .int .i64 0, .int .i64 0] 45 (0, 0)) := by rw [hw0]; exact heap_keepA (heap_hit _ _ _ rfl) _
      have hF2 : w0.heap[w.heap.size + 1]? = some (.cells #[.int .i64 0, .int .i64 0, .int .i64 0, .int .i64 0] 45 (0, 0)) := by rw [hw0]; exact heap_hit _ _ _ (by simp)
      have s0 := cell_of hF1 0
      have s1 := cell_of hF1 1
      have s2 := cell_of hF1 2
      have s3 := cell_of hF1 3
      have r0 := cell_of hF2 0
      have r1 := cell_of hF2 1
      have r2 := cell_of hF2 2
      have r3 := cell_of hF2 3
      have hT : Below w.heap.size w w0 := by rw [hw0]; (repeat (first | exact Below.refl _ _ | assumption | refine Below_al ?_ _ | refine Below.drew ?_ | refine Below_then ?_ (by assumption) | refine Below.setCell ?_ (by first | omega | (simp; done) | (simp; omega)) _))
      clear hF1 hF2 hw0
      go_region_held3 (fun w' => w'.cell? ⟨w.heap.size, 0, none⟩ = some (.int .i64 0) ∧ w'.cell? ⟨w.heap.size, 1, none⟩ = some (.int .i64 0) ∧ w'.cell? ⟨w.heap.size, 2, none⟩ = some (.int .i64 0) ∧ w'.cell? ⟨w.heap.size, 3, none⟩ = some (.int .i64 0) ∧ w'.cell? ⟨w.heap.size + 1, 0, none⟩ = some (.int .i64 0) ∧ w'.cell? ⟨w.heap.size + 1, 1, none⟩ = some (.int .i64 0) ∧ w'.cell? ⟨w.heap.size + 1, 2, none⟩ = some (.int .i64 0) ∧ w'.cell? ⟨w.heap.size + 1, 3, none⟩ = some (.int .i64 0) ∧ Below w0.heap.size w0 w') (first | assumption | exact heldC8 (by assumption) (by assumption) | exact ⟨s0, s1, s2, s3, r0, r1, r2, r3, Below.refl _ _⟩ | exact ⟨s0, s1, s2, s3, r0, r1, r2, r3, (Below.refl _ _).drew⟩) (first | (go_at_call 35; first | ((with_reducible refine (KA'.out _).mono ?_); rintro e x1 ⟨rfl, bA⟩; obtain ⟨hcA, hfA⟩ := bcell bA) | ((with_reducible refine (KB'.out _).mono ?_); rintro e x2 ⟨rfl, bB⟩; obtain ⟨hcB, hfB⟩ := bcell bB)))
      obtain ⟨s0, s1, s2, s3, r0, r1, r2, r3, sb⟩ : _ ∧ _ ∧ _ ∧ _ ∧ _ ∧ _ ∧ _ ∧ _ ∧ Below w0.heap.size w0 _ := (by assumption)
      go_wp2
      all_goals go_ret
      all_goals exact ⟨retI (by first | rfl | (rw [HV.out, if_bne]; simp only [*]; rfl)), Below_then hT sb⟩
    · rw [gd_n1 _ _ _ _ (by omega)]
      have KA' := Lib.hid l4None_no
      have KB' := Lib.hid (l4None_ok c2 k2 a2 t2 g2)
      go_enter Tryz.func74, Tryz.ntmps74
      go_wp2_with fail
      obtain ⟨w0, hw0⟩ : ∃ x, x = (w.alloc (.cells #[.int .i64 0, .int .i64 0, .int .i64 0, .int .i64 0] 45)).alloc (.cells #[.int .i64 c2, .int .i64 k2, .int .i64 a2, .int .i64 t2] 45) := ⟨_, rfl⟩
      rw [← hw0]
      have hF1 : w0.heap[w.heap.size]? = some (.cells #[.int .i64 0, .int .i64 0, .int .i64 0, .int .i64 0] 45 (0, 0)) := by rw [hw0]; exact heap_keepA (heap_hit _ _ _ rfl) _
      have hF2 : w0.heap[w.heap.size + 1]? = some (.cells #[.int .i64 c2, .int .i64 k2, .int .i64 a2, .int .i64 t2] 45 (0, 0)) := by rw [hw0]; exact heap_hit _ _ _ (by simp)
      have s0 := cell_of hF1 0
      have s1 := cell_of hF1 1
      have s2 := cell_of hF1 2
      have s3 := cell_of hF1 3
      have r0 := cell_of hF2 0
      have r1 := cell_of hF2 1
      have r2 := cell_of hF2 2
      have r3 := cell_of hF2 3
      have hT : Below w.heap.size w w0 := by rw [hw0]; (repeat (first | exact Below.refl _ _ | assumption | refine Below_al ?_ _ | refine Below.drew ?_ | refine Below_then ?_ (by assumption) | refine Below.setCell ?_ (by first | omega | (simp; done) | (simp; omega)) _))
      clear hF1 hF2 hw0
      go_region_held3 (fun w' => w'.cell? ⟨w.heap.size, 0, none⟩ = some (.int .i64 0) ∧ w'.cell? ⟨w.heap.size, 1, none⟩ = some (.int .i64 0) ∧ w'.cell? ⟨w.heap.size, 2, none⟩ = some (.int .i64 0) ∧ w'.cell? ⟨w.heap.size, 3, none⟩ = some (.int .i64 0) ∧ w'.cell? ⟨w.heap.size + 1, 0, none⟩ = some (.int .i64 c2) ∧ w'.cell? ⟨w.heap.size + 1, 1, none⟩ = some (.int .i64 k2) ∧ w'.cell? ⟨w.heap.size + 1, 2, none⟩ = some (.int .i64 a2) ∧ w'.cell? ⟨w.heap.size + 1, 3, none⟩ = some (.int .i64 t2) ∧ Below w0.heap.size w0 w') (first | assumption | exact heldC8 (by assumption) (by assumption) | exact ⟨s0, s1, s2, s3, r0, r1, r2, r3, Below.refl _ _⟩ | exact ⟨s0, s1, s2, s3, r0, r1, r2, r3, (Below.refl _ _).drew⟩) (first | (go_at_call 35; first | ((with_reducible refine (KA'.out _).mono ?_); rintro e x1 ⟨rfl, bA⟩; obtain ⟨hcA, hfA⟩ := bcell bA) | ((with_reducible refine (KB'.out _).mono ?_); rintro e x2 ⟨rfl, bB⟩; obtain ⟨hcB, hfB⟩ := bcell bB)))
      obtain ⟨s0, s1, s2, s3, r0, r1, r2, r3, sb⟩ : _ ∧ _ ∧ _ ∧ _ ∧ _ ∧ _ ∧ _ ∧ _ ∧ Below w0.heap.size w0 _ := (by assumption)
      go_wp2
      all_goals go_ret
      all_goals exact ⟨retI (by first | rfl | (rw [HV.out, if_bne]; simp only [*]; rfl)), Below_then hT sb⟩
  · rcases g2 with ⟨rfl, rfl, rfl, rfl⟩ | g2
    · rw [gd_n2 _ _ _ _ (by omega)]
      have KA' := Lib.hid (l4None_ok c k a t g1)
      have KB' := Lib.hid l4None_no
      go_enter Tryz.func74, Tryz.ntmps74
      go_wp2_with fail
      obtain ⟨w0, hw0⟩ : ∃ x, x = (w.alloc (.cells #[.int .i64 c, .int .i64 k, .int .i64 a, .int .i64 t] 45)).alloc (.cells #[.int .i64 0, .int .i64 0, .int .i64 0, .int .i64 0] 45) := ⟨_, rfl⟩
      rw [← hw0]
      have hF1 : w0.heap[w.heap.size]? = some (.cells #[.int .i64 c, .int .i64 k, .int .i64 a, .int .i64 t] 45 (0, 0)) := by rw [hw0]; exact heap_keepA (heap_hit _ _ _ rfl) _
      have hF2 : w0.heap[w.heap.size + 1]? = some (.cells #[.int .i64 0, .int .i64 0, .int .i64 0, .int .i64 0] 45 (0, 0)) := by rw [hw0]; exact heap_hit _ _ _ (by simp)
      have s0 := cell_of hF1 0
      have s1 := cell_of hF1 1
      have s2 := cell_of hF1 2
      have s3 := cell_of hF1 3
      have r0 := cell_of hF2 0
      have r1 := cell_of hF2 1
      have r2 := cell_of hF2 2
      have r3 := cell_of hF2 3
      have hT : Below w.heap.size w w0 := by rw [hw0]; (repeat (first | exact Below.refl _ _ | assumption | refine Below_al ?_ _ | refine Below.drew ?_ | refine Below_then ?_ (by assumption) | refine Below.setCell ?_ (by first | omega | (simp; done) | (simp; omega)) _))
      clear hF1 hF2 hw0
      go_region_held3 (fun w' => w'.cell? ⟨w.heap.size, 0, none⟩ = some (.int .i64 c) ∧ w'.cell? ⟨w.heap.size, 1, none⟩ = some (.int .i64 k) ∧ w'.cell? ⟨w.heap.size, 2, none⟩ = some (.int .i64 a) ∧ w'.cell? ⟨w.heap.size, 3, none⟩ = some (.int .i64 t) ∧ w'.cell? ⟨w.heap.size + 1, 0, none⟩ = some (.int .i64 0) ∧ w'.cell? ⟨w.heap.size + 1, 1, none⟩ = some (.int .i64 0) ∧ w'.cell? ⟨w.heap.size + 1, 2, none⟩ = some (.int .i64 0) ∧ w'.cell? ⟨w.heap.size + 1, 3, none⟩ = some (.int .i64 0) ∧ Below w0.heap.size w0 w') (first | assumption | exact heldC8 (by assumption) (by assumption) | exact ⟨s0, s1, s2, s3, r0, r1, r2, r3, Below.refl _ _⟩ | exact ⟨s0, s1, s2, s3, r0, r1, r2, r3, (Below.refl _ _).drew⟩) (first | (go_at_call 35; first | ((with_reducible refine (KA'.out _).mono ?_); rintro e x1 ⟨rfl, bA⟩; obtain ⟨hcA, hfA⟩ := bcell bA) | ((with_reducible refine (KB'.out _).mono ?_); rintro e x2 ⟨rfl, bB⟩; obtain ⟨hcB, hfB⟩ := bcell bB)))
      obtain ⟨s0, s1, s2, s3, r0, r1, r2, r3, sb⟩ : _ ∧ _ ∧ _ ∧ _ ∧ _ ∧ _ ∧ _ ∧ _ ∧ Below w0.heap.size w0 _ := (by assumption)
      go_wp2
      all_goals go_ret
      all_goals exact ⟨retI (by first | rfl | (rw [HV.out, if_bne]; simp only [*]; rfl)), Below_then hT sb⟩
    · rw [gd_not (by omega) (by omega)]
      obtain ⟨vv, hvv⟩ : ∃ v : Int, v = numI (c != c2) + (if k = k2 then numI (a != a2) else 2) + numI (t != t2) := ⟨_, rfl⟩
      rw [← hvv]
      have HV := Lib.hid hvv
      clear hvv
      have KA' := Lib.hid (l4None_ok c k a t g1)
      have KB' := Lib.hid (l4None_ok c2 k2 a2 t2 g2)
      go_enter Tryz.func74, Tryz.ntmps74
      go_wp2_with fail
      obtain ⟨w0, hw0⟩ : ∃ x, x = (w.alloc (.cells #[.int .i64 c, .int .i64 k, .int .i64 a, .int .i64 t] 45)).alloc (.cells #[.int .i64 c2, .int .i64 k2, .int .i64 a2, .int .i64 t2] 45) := ⟨_, rfl⟩
      rw [← hw0]
      have hF1 : w0.heap[w.heap.size]? = some (.cells #[.int .i64 c, .int .i64 k, .int .i64 a, .int .i64 t] 45 (0, 0)) := by rw [hw0]; exact heap_keepA (heap_hit _ _ _ rfl) _
      have hF2 : w0.heap[w.heap.size + 1]? = some (.cells #[.int .i64 c2, .int .i64 k2, .int .i64 a2, .int .i64 t2] 45 (0, 0)) := by rw [hw0]; exact heap_hit _ _ _ (by simp)
      have s0 := cell_of hF1 0
      have s1 := cell_of hF1 1
      have s2 := cell_of hF1 2
      have s3 := cell_of hF1 3
      have r0 := cell_of hF2 0
      have r1 := cell_of hF2 1
      have r2 := cell_of hF2 2
      have r3 := cell_of hF2 3
      have hT : Below w.heap.size w w0 := by rw [hw0]; (repeat (first | exact Below.refl _ _ | assumption | refine Below_al ?_ _ | refine Below.drew ?_ | refine Below_then ?_ (by assumption) | refine Below.setCell ?_ (by first | omega | (simp; done) | (simp; omega)) _))
      clear hF1 hF2 hw0
      go_region_held3 (fun w' => w'.cell? ⟨w.heap.size, 0, none⟩ = some (.int .i64 c) ∧ w'.cell? ⟨w.heap.size, 1, none⟩ = some (.int .i64 k) ∧ w'.cell? ⟨w.heap.size, 2, none⟩ = some (.int .i64 a) ∧ w'.cell? ⟨w.heap.size, 3, none⟩ = some (.int .i64 t) ∧ w'.cell? ⟨w.heap.size + 1, 0, none⟩ = some (.int .i64 c2) ∧ w'.cell? ⟨w.heap.size + 1, 1, none⟩ = some (.int .i64 k2) ∧ w'.cell? ⟨w.heap.size + 1, 2, none⟩ = some (.int .i64 a2) ∧ w'.cell? ⟨w.heap.size + 1, 3, none⟩ = some (.int .i64 t2) ∧ Below w0.heap.size w0 w') (first | assumption | exact heldC8 (by assumption) (by assumption) | exact ⟨s0, s1, s2, s3, r0, r1, r2, r3, Below.refl _ _⟩ | exact ⟨s0, s1, s2, s3, r0, r1, r2, r3, (Below.refl _ _).drew⟩) (first | (go_at_call 35; first | ((with_reducible refine (KA'.out _).mono ?_); rintro e x1 ⟨rfl, bA⟩; obtain ⟨hcA, hfA⟩ := bcell bA) | ((with_reducible refine (KB'.out _).mono ?_); rintro e x2 ⟨rfl, bB⟩; obtain ⟨hcB, hfB⟩ := bcell bB)))
      obtain ⟨s0, s1, s2, s3, r0, r1, r2, r3, sb⟩ : _ ∧ _ ∧ _ ∧ _ ∧ _ ∧ _ ∧ _ ∧ _ ∧ Below w0.heap.size w0 _ := (by assumption)
      go_wp2
      all_goals go_ret
      all_goals exact ⟨retI (by first | rfl | (rw [HV.out, if_bne]; simp only [*]; rfl)), Below_then hT sb⟩

def fdA (a b : ArmsD) : Int := fd a.d a.l a.p a.q b.d b.l b.p b.q
def gdOn (a b : ArmsD) : Int := gd a.c1 a.k1 a.a1 a.t1 b.c1 b.k1 b.a1 b.t1
def gdAr (a b : ArmsD) : Int := gd a.c2 a.k2 a.a2 a.t2 b.c2 b.k2 b.a2 b.t2
/-- Differences of arms. -/
def df (a b : ArmsD) : Int := fdA a b + (gdOn a b + gdAr a b) + (if a.o = b.o then numI (a.li != b.li) + numI (a.t != b.t) else 2)
theorem df_bd (a b : ArmsD) : 0 ≤ df a b ∧ df a b ≤ 20 := by
  have h1 := fd_bd a.d a.l a.p a.q b.d b.l b.p b.q
  have h2 := gd_bd a.c1 a.k1 a.a1 a.t1 b.c1 b.k1 b.a1 b.t1
  have h3 := gd_bd a.c2 a.k2 a.a2 a.t2 b.c2 b.k2 b.a2 b.t2
  have h4 := numI_bd (a.li != b.li)
  have h5 := numI_bd (a.t != b.t)
  unfold df fdA gdOn gdAr
  split <;> omega
theorem any_cases {c k a t : Int} (h : groupAny c k a t = true) : (c = 0 ∧ k = 0 ∧ a = 0 ∧ t = 0) ∨ 1 ≤ c := by
  simp [groupAny, groupNone, groupOk] at h
  omega
theorem armsOk_field {a : ArmsD} (h : armsOk a = true) : fieldOk a.d a.l a.p a.q = true := by
  unfold armsOk at h
  rw [Bool.and_eq_true, Bool.and_eq_true] at h
  exact h.1.1
theorem armsOk_around {a : ArmsD} (h : armsOk a = true) : groupAny a.c2 a.k2 a.a2 a.t2 = true := by
  unfold armsOk at h
  rw [Bool.and_eq_true, Bool.and_eq_true] at h
  exact h.1.2
theorem armsOk_on {a : ArmsD} (h : armsOk a = true) : groupAny a.c1 a.k1 a.a1 a.t1 = true := by
  unfold armsOk at h
  rw [Bool.and_eq_true, Bool.and_eq_true] at h
  have h2 := h.2
  split at h2
  · rw [Bool.and_eq_true] at h2
    exact any_none h2.2
  · rw [Bool.and_eq_true] at h2
    exact h2.2
set_option maxHeartbeats 4000000 in
theorem differences_any (a b : ArmsD) (w : World) (ga : armsOk a = true) (gb : armsOk b = true) :
    Calls Tryz.prog 60 #[.agg #[.int .i64 a.d, .int .i64 a.l, .int .i64 a.p, .int .i64 a.q, .int .i64 a.o, .int .i64 a.li, .int .i64 a.t, .int .i64 a.c1, .int .i64 a.k1, .int .i64 a.a1, .int .i64 a.t1, .int .i64 a.c2, .int .i64 a.k2, .int .i64 a.a2, .int .i64 a.t2], .agg #[.int .i64 b.d, .int .i64 b.l, .int .i64 b.p, .int .i64 b.q, .int .i64 b.o, .int .i64 b.li, .int .i64 b.t, .int .i64 b.c1, .int .i64 b.k1, .int .i64 b.a1, .int .i64 b.t1, .int .i64 b.c2, .int .i64 b.k2, .int .i64 b.a2, .int .i64 b.t2]] w fun e w' => e = .returned (.int .i64 (df a b)) ∧ Below w.heap.size w w' := by
  have KF := fun w => FieldDifferences_yes a.d a.l a.p a.q b.d b.l b.p b.q w (armsOk_field ga) (armsOk_field gb)
  have KA := fun w => groupDifferences_any a.c1 a.k1 a.a1 a.t1 b.c1 b.k1 b.a1 b.t1 w (any_cases (armsOk_on ga)) (any_cases (armsOk_on gb))
  have KB := fun w => groupDifferences_any a.c2 a.k2 a.a2 a.t2 b.c2 b.k2 b.a2 b.t2 w (any_cases (armsOk_around ga)) (any_cases (armsOk_around gb))
  have b1 := fd_bd a.d a.l a.p a.q b.d b.l b.p b.q
  have b2 := gd_bd a.c1 a.k1 a.a1 a.t1 b.c1 b.k1 b.a1 b.t1
  have b3 := gd_bd a.c2 a.k2 a.a2 a.t2 b.c2 b.k2 b.a2 b.t2
  have n1 := numI_bd (a.li != b.li)
  have n2 := numI_bd (a.t != b.t)
  unfold df fdA gdOn gdAr
  generalize fd a.d a.l a.p a.q b.d b.l b.p b.q = xf at *
  generalize gd a.c1 a.k1 a.a1 a.t1 b.c1 b.k1 b.a1 b.t1 = xa at *
  generalize gd a.c2 a.k2 a.a2 a.t2 b.c2 b.k2 b.a2 b.t2 = xb at *
  have z1 : IntKind.i64.wrap (xa + xb) = xa + xb := by rw [IntWalk.i64_in _ ⟨by omega, by omega⟩]
  have z2 : IntKind.i64.wrap (xf + (xa + xb)) = xf + (xa + xb) := by rw [IntWalk.i64_in _ ⟨by omega, by omega⟩]
  have z3 : IntKind.i64.wrap (xf + (xa + xb) + numI (a.li != b.li)) = xf + (xa + xb) + numI (a.li != b.li) := by rw [IntWalk.i64_in _ ⟨by omega, by omega⟩]
  have z4 : IntKind.i64.wrap (xf + (xa + xb) + numI (a.li != b.li) + numI (a.t != b.t)) = xf + (xa + xb) + numI (a.li != b.li) + numI (a.t != b.t) := by rw [IntWalk.i64_in _ ⟨by omega, by omega⟩]
  have Z1 := Lib.hid z1
  have Z2 := Lib.hid z2
  have Z3 := Lib.hid z3
  have Z4 := Lib.hid z4
  have KF' := Lib.hid KF
  have KA' := Lib.hid KA
  have KB' := Lib.hid KB
  obtain ⟨vv, hvv⟩ : ∃ v : Int, v = (if a.o = b.o then numI (a.li != b.li) + numI (a.t != b.t) else 2) := ⟨_, rfl⟩
  rw [← hvv]
  have HV := Lib.hid hvv
  clear KF KA KB z1 z2 z3 z4 ga gb hvv
  go_enter Tryz.func60, Tryz.ntmps60
  go_wp2_with fail
  refine (KF'.out _).mono ?_
  rintro e w1 ⟨rfl, hb1⟩
  have hF1 : w1.heap[w.heap.size]? = some (.cells #[.int .i64 a.d, .int .i64 a.l, .int .i64 a.p, .int .i64 a.q, .int .i64 a.o, .int .i64 a.li, .int .i64 a.t, .int .i64 a.c1, .int .i64 a.k1, .int .i64 a.a1, .int .i64 a.t1, .int .i64 a.c2, .int .i64 a.k2, .int .i64 a.a2, .int .i64 a.t2] 47 (0, 0)) := heap_keepB (heap_keepA (heap_hit _ _ _ rfl) _) hb1
  have hF2 : w1.heap[w.heap.size + 1]? = some (.cells #[.int .i64 b.d, .int .i64 b.l, .int .i64 b.p, .int .i64 b.q, .int .i64 b.o, .int .i64 b.li, .int .i64 b.t, .int .i64 b.c1, .int .i64 b.k1, .int .i64 b.a1, .int .i64 b.t1, .int .i64 b.c2, .int .i64 b.k2, .int .i64 b.a2, .int .i64 b.t2] 47 (0, 0)) := heap_keepB (heap_hit _ _ _ (by simp)) hb1
  have c4 := cell_of hF1 4
  have c5 := cell_of hF1 5
  have c6 := cell_of hF1 6
  have c7 := cell_of hF1 7
  have c8 := cell_of hF1 8
  have c9 := cell_of hF1 9
  have c10 := cell_of hF1 10
  have c11 := cell_of hF1 11
  have c12 := cell_of hF1 12
  have c13 := cell_of hF1 13
  have c14 := cell_of hF1 14
  have e4 := cell_of hF2 4
  have e5 := cell_of hF2 5
  have e6 := cell_of hF2 6
  have e7 := cell_of hF2 7
  have e8 := cell_of hF2 8
  have e9 := cell_of hF2 9
  have e10 := cell_of hF2 10
  have e11 := cell_of hF2 11
  have e12 := cell_of hF2 12
  have e13 := cell_of hF2 13
  have e14 := cell_of hF2 14
  have hT := Below_then (show Below w.heap.size w _ by (repeat (first | exact Below.refl _ _ | assumption | refine Below_al ?_ _ | refine Below.drew ?_ | refine Below_then ?_ (by assumption) | refine Below.setCell ?_ (by first | omega | (simp; done) | (simp; omega)) _))) hb1
  clear hF1 hF2 hb1
  go_wp2_with fail
  have z1 := Z1.out
  have z2 := Z2.out
  go_region_held3 (fun w' => w'.cell? ⟨w.heap.size, 4, none⟩ = some (.int .i64 a.o) ∧ w'.cell? ⟨w.heap.size, 5, none⟩ = some (.int .i64 a.li) ∧ w'.cell? ⟨w.heap.size, 6, none⟩ = some (.int .i64 a.t) ∧ w'.cell? ⟨w.heap.size, 7, none⟩ = some (.int .i64 a.c1) ∧ w'.cell? ⟨w.heap.size, 8, none⟩ = some (.int .i64 a.k1) ∧ w'.cell? ⟨w.heap.size, 9, none⟩ = some (.int .i64 a.a1) ∧ w'.cell? ⟨w.heap.size, 10, none⟩ = some (.int .i64 a.t1) ∧ w'.cell? ⟨w.heap.size, 11, none⟩ = some (.int .i64 a.c2) ∧ w'.cell? ⟨w.heap.size, 12, none⟩ = some (.int .i64 a.k2) ∧ w'.cell? ⟨w.heap.size, 13, none⟩ = some (.int .i64 a.a2) ∧ w'.cell? ⟨w.heap.size, 14, none⟩ = some (.int .i64 a.t2) ∧ w'.cell? ⟨w.heap.size + 1, 4, none⟩ = some (.int .i64 b.o) ∧ w'.cell? ⟨w.heap.size + 1, 5, none⟩ = some (.int .i64 b.li) ∧ w'.cell? ⟨w.heap.size + 1, 6, none⟩ = some (.int .i64 b.t) ∧ w'.cell? ⟨w.heap.size + 1, 7, none⟩ = some (.int .i64 b.c1) ∧ w'.cell? ⟨w.heap.size + 1, 8, none⟩ = some (.int .i64 b.k1) ∧ w'.cell? ⟨w.heap.size + 1, 9, none⟩ = some (.int .i64 b.a1) ∧ w'.cell? ⟨w.heap.size + 1, 10, none⟩ = some (.int .i64 b.t1) ∧ w'.cell? ⟨w.heap.size + 1, 11, none⟩ = some (.int .i64 b.c2) ∧ w'.cell? ⟨w.heap.size + 1, 12, none⟩ = some (.int .i64 b.k2) ∧ w'.cell? ⟨w.heap.size + 1, 13, none⟩ = some (.int .i64 b.a2) ∧ w'.cell? ⟨w.heap.size + 1, 14, none⟩ = some (.int .i64 b.t2) ∧ Below w1.heap.size w1 w') (first | assumption | exact heldC22 (by assumption) (by assumption) | exact ⟨c4, c5, c6, c7, c8, c9, c10, c11, c12, c13, c14, e4, e5, e6, e7, e8, e9, e10, e11, e12, e13, e14, Below.refl _ _⟩ | exact ⟨c4, c5, c6, c7, c8, c9, c10, c11, c12, c13, c14, e4, e5, e6, e7, e8, e9, e10, e11, e12, e13, e14, (Below.refl _ _).drew⟩) (first | (go_at_call 81; first | ((with_reducible refine (KA'.out _).mono ?_); rintro e x1 ⟨rfl, bA⟩; obtain ⟨hcA, hfA⟩ := bcell bA) | ((with_reducible refine (KB'.out _).mono ?_); rintro e x2 ⟨rfl, bB⟩; obtain ⟨hcB, hfB⟩ := bcell bB)))
  clear z1 z2 c4 c5 c6 c7 c8 c9 c10 c11 c12 c13 c14 e4 e5 e6 e7 e8 e9 e10 e11 e12 e13 e14
  obtain ⟨c4, c5, c6, c7, c8, c9, c10, c11, c12, c13, c14, e4, e5, e6, e7, e8, e9, e10, e11, e12, e13, e14, sb⟩ : _ ∧ _ ∧ _ ∧ _ ∧ _ ∧ _ ∧ _ ∧ _ ∧ _ ∧ _ ∧ _ ∧ _ ∧ _ ∧ _ ∧ _ ∧ _ ∧ _ ∧ _ ∧ _ ∧ _ ∧ _ ∧ _ ∧ Below w1.heap.size w1 _ := (by assumption)
  by_cases ho : a.o = b.o
  · have f1 : (a.o != b.o) = false := by simpa using ho
    have HO := Lib.hid ho
    clear ho
    go_wp2_with fail
    have z3 := Z3.out
    have z4 := Z4.out
    go_quiet ((go_at_call 46; exact Calls.quiet_of_same (number_any' _ _)))
    go_wp2
    go_ret
    exact ⟨retI (by rw [HV.out, if_pos HO.out]; omega), Below_drewD (Below_then hT sb) _⟩
  · have f1 : (a.o != b.o) = true := by simpa using ho
    have HO := Lib.hid ho
    clear ho
    go_wp2_with fail
    go_ret
    exact ⟨retI (by rw [HV.out, if_neg HO.out]), Below_then hT sb⟩
set_option maxHeartbeats 4000000 in
theorem l15Count_any (a b : ArmsD) (w : World) (ga : armsOk a = true) (gb : armsOk b = true) :
    Calls Tryz.prog 53 #[.agg #[.int .i64 a.d, .int .i64 a.l, .int .i64 a.p, .int .i64 a.q, .int .i64 a.o, .int .i64 a.li, .int .i64 a.t, .int .i64 a.c1, .int .i64 a.k1, .int .i64 a.a1, .int .i64 a.t1, .int .i64 a.c2, .int .i64 a.k2, .int .i64 a.a2, .int .i64 a.t2], .agg #[.int .i64 b.d, .int .i64 b.l, .int .i64 b.p, .int .i64 b.q, .int .i64 b.o, .int .i64 b.li, .int .i64 b.t, .int .i64 b.c1, .int .i64 b.k1, .int .i64 b.a1, .int .i64 b.t1, .int .i64 b.c2, .int .i64 b.k2, .int .i64 b.a2, .int .i64 b.t2]] w fun e w' => e = .returned (.int .i64 (df a b)) ∧ Below w.heap.size w w' := by
  have KF := fun w => l3Differences_any a.d a.l a.p a.q b.d b.l b.p b.q w
  have KA := fun w => l4Differences_any a.c1 a.k1 a.a1 a.t1 b.c1 b.k1 b.a1 b.t1 w (any_cases (armsOk_on ga)) (any_cases (armsOk_on gb))
  have KB := fun w => l4Differences_any a.c2 a.k2 a.a2 a.t2 b.c2 b.k2 b.a2 b.t2 w (any_cases (armsOk_around ga)) (any_cases (armsOk_around gb))
  have b1 := fd_bd a.d a.l a.p a.q b.d b.l b.p b.q
  have b2 := gd_bd a.c1 a.k1 a.a1 a.t1 b.c1 b.k1 b.a1 b.t1
  have b3 := gd_bd a.c2 a.k2 a.a2 a.t2 b.c2 b.k2 b.a2 b.t2
  unfold df fdA gdOn gdAr
  generalize fd a.d a.l a.p a.q b.d b.l b.p b.q = xf at *
  generalize gd a.c1 a.k1 a.a1 a.t1 b.c1 b.k1 b.a1 b.t1 = xa at *
  generalize gd a.c2 a.k2 a.a2 a.t2 b.c2 b.k2 b.a2 b.t2 = xb at *
  have z1 : IntKind.i64.wrap (xf + xa) = xf + xa := by rw [IntWalk.i64_in _ ⟨by omega, by omega⟩]
  have z2 : IntKind.i64.wrap (xf + xa + xb) = xf + xa + xb := by rw [IntWalk.i64_in _ ⟨by omega, by omega⟩]
  have Z1 := Lib.hid z1
  have Z2 := Lib.hid z2
  have KF' := Lib.hid KF
  have KA' := Lib.hid KA
  have KB' := Lib.hid KB
  obtain ⟨vv, hvv⟩ : ∃ v : Int, v = (if a.o = b.o then numI (a.li != b.li) + numI (a.t != b.t) else 2) := ⟨_, rfl⟩
  rw [← hvv]
  have HV := Lib.hid hvv
  clear KF KA KB z1 z2 ga gb hvv
  go_enter Tryz.func53, Tryz.ntmps53
  go_wp2_with fail
  obtain ⟨w0, hw0⟩ : ∃ x, x = (w.alloc (.cells #[.int .i64 a.d, .int .i64 a.l, .int .i64 a.p, .int .i64 a.q, .int .i64 a.o, .int .i64 a.li, .int .i64 a.t, .int .i64 a.c1, .int .i64 a.k1, .int .i64 a.a1, .int .i64 a.t1, .int .i64 a.c2, .int .i64 a.k2, .int .i64 a.a2, .int .i64 a.t2] 47)).alloc (.cells #[.int .i64 b.d, .int .i64 b.l, .int .i64 b.p, .int .i64 b.q, .int .i64 b.o, .int .i64 b.li, .int .i64 b.t, .int .i64 b.c1, .int .i64 b.k1, .int .i64 b.a1, .int .i64 b.t1, .int .i64 b.c2, .int .i64 b.k2, .int .i64 b.a2, .int .i64 b.t2] 47) := ⟨_, rfl⟩
  rw [← hw0]
  have hF1 : w0.heap[w.heap.size]? = some (.cells #[.int .i64 a.d, .int .i64 a.l, .int .i64 a.p, .int .i64 a.q, .int .i64 a.o, .int .i64 a.li, .int .i64 a.t, .int .i64 a.c1, .int .i64 a.k1, .int .i64 a.a1, .int .i64 a.t1, .int .i64 a.c2, .int .i64 a.k2, .int .i64 a.a2, .int .i64 a.t2] 47 (0, 0)) := by rw [hw0]; exact heap_keepA (heap_hit _ _ _ rfl) _
  have hF2 : w0.heap[w.heap.size + 1]? = some (.cells #[.int .i64 b.d, .int .i64 b.l, .int .i64 b.p, .int .i64 b.q, .int .i64 b.o, .int .i64 b.li, .int .i64 b.t, .int .i64 b.c1, .int .i64 b.k1, .int .i64 b.a1, .int .i64 b.t1, .int .i64 b.c2, .int .i64 b.k2, .int .i64 b.a2, .int .i64 b.t2] 47 (0, 0)) := by rw [hw0]; exact heap_hit _ _ _ (by simp)
  have c0 := cell_of hF1 0
  have c1 := cell_of hF1 1
  have c2 := cell_of hF1 2
  have c3 := cell_of hF1 3
  have c4 := cell_of hF1 4
  have c5 := cell_of hF1 5
  have c6 := cell_of hF1 6
  have c7 := cell_of hF1 7
  have c8 := cell_of hF1 8
  have c9 := cell_of hF1 9
  have c10 := cell_of hF1 10
  have c11 := cell_of hF1 11
  have c12 := cell_of hF1 12
  have c13 := cell_of hF1 13
  have c14 := cell_of hF1 14
  have e0 := cell_of hF2 0
  have e1 := cell_of hF2 1
  have e2 := cell_of hF2 2
  have e3 := cell_of hF2 3
  have e4 := cell_of hF2 4
  have e5 := cell_of hF2 5
  have e6 := cell_of hF2 6
  have e7 := cell_of hF2 7
  have e8 := cell_of hF2 8
  have e9 := cell_of hF2 9
  have e10 := cell_of hF2 10
  have e11 := cell_of hF2 11
  have e12 := cell_of hF2 12
  have e13 := cell_of hF2 13
  have e14 := cell_of hF2 14
  have hT : Below w.heap.size w w0 := by rw [hw0]; (repeat (first | exact Below.refl _ _ | assumption | refine Below_al ?_ _ | refine Below.drew ?_ | refine Below_then ?_ (by assumption) | refine Below.setCell ?_ (by first | omega | (simp; done) | (simp; omega)) _))
  clear hF1 hF2 hw0
  have z1 := Z1.out
  have z2 := Z2.out
  go_region_held3 (fun w' => w'.cell? ⟨w.heap.size, 0, none⟩ = some (.int .i64 a.d) ∧ w'.cell? ⟨w.heap.size, 1, none⟩ = some (.int .i64 a.l) ∧ w'.cell? ⟨w.heap.size, 2, none⟩ = some (.int .i64 a.p) ∧ w'.cell? ⟨w.heap.size, 3, none⟩ = some (.int .i64 a.q) ∧ w'.cell? ⟨w.heap.size, 4, none⟩ = some (.int .i64 a.o) ∧ w'.cell? ⟨w.heap.size, 5, none⟩ = some (.int .i64 a.li) ∧ w'.cell? ⟨w.heap.size, 6, none⟩ = some (.int .i64 a.t) ∧ w'.cell? ⟨w.heap.size, 7, none⟩ = some (.int .i64 a.c1) ∧ w'.cell? ⟨w.heap.size, 8, none⟩ = some (.int .i64 a.k1) ∧ w'.cell? ⟨w.heap.size, 9, none⟩ = some (.int .i64 a.a1) ∧ w'.cell? ⟨w.heap.size, 10, none⟩ = some (.int .i64 a.t1) ∧ w'.cell? ⟨w.heap.size, 11, none⟩ = some (.int .i64 a.c2) ∧ w'.cell? ⟨w.heap.size, 12, none⟩ = some (.int .i64 a.k2) ∧ w'.cell? ⟨w.heap.size, 13, none⟩ = some (.int .i64 a.a2) ∧ w'.cell? ⟨w.heap.size, 14, none⟩ = some (.int .i64 a.t2) ∧ w'.cell? ⟨w.heap.size + 1, 0, none⟩ = some (.int .i64 b.d) ∧ w'.cell? ⟨w.heap.size + 1, 1, none⟩ = some (.int .i64 b.l) ∧ w'.cell? ⟨w.heap.size + 1, 2, none⟩ = some (.int .i64 b.p) ∧ w'.cell? ⟨w.heap.size + 1, 3, none⟩ = some (.int .i64 b.q) ∧ w'.cell? ⟨w.heap.size + 1, 4, none⟩ = some (.int .i64 b.o) ∧ w'.cell? ⟨w.heap.size + 1, 5, none⟩ = some (.int .i64 b.li) ∧ w'.cell? ⟨w.heap.size + 1, 6, none⟩ = some (.int .i64 b.t) ∧ w'.cell? ⟨w.heap.size + 1, 7, none⟩ = some (.int .i64 b.c1) ∧ w'.cell? ⟨w.heap.size + 1, 8, none⟩ = some (.int .i64 b.k1) ∧ w'.cell? ⟨w.heap.size + 1, 9, none⟩ = some (.int .i64 b.a1) ∧ w'.cell? ⟨w.heap.size + 1, 10, none⟩ = some (.int .i64 b.t1) ∧ w'.cell? ⟨w.heap.size + 1, 11, none⟩ = some (.int .i64 b.c2) ∧ w'.cell? ⟨w.heap.size + 1, 12, none⟩ = some (.int .i64 b.k2) ∧ w'.cell? ⟨w.heap.size + 1, 13, none⟩ = some (.int .i64 b.a2) ∧ w'.cell? ⟨w.heap.size + 1, 14, none⟩ = some (.int .i64 b.t2) ∧ Below w0.heap.size w0 w') (first | assumption | exact heldC30 (by assumption) (by assumption) | exact ⟨c0, c1, c2, c3, c4, c5, c6, c7, c8, c9, c10, c11, c12, c13, c14, e0, e1, e2, e3, e4, e5, e6, e7, e8, e9, e10, e11, e12, e13, e14, Below.refl _ _⟩ | exact ⟨c0, c1, c2, c3, c4, c5, c6, c7, c8, c9, c10, c11, c12, c13, c14, e0, e1, e2, e3, e4, e5, e6, e7, e8, e9, e10, e11, e12, e13, e14, (Below.refl _ _).drew⟩) (first | (go_at_call 73; refine (KF'.out _).mono ?_; rintro e x0 ⟨rfl, bF⟩; obtain ⟨hcF, hfF⟩ := bcell bF) | (go_at_call 74; first | ((with_reducible refine (KA'.out _).mono ?_); rintro e x1 ⟨rfl, bA⟩; obtain ⟨hcA, hfA⟩ := bcell bA) | ((with_reducible refine (KB'.out _).mono ?_); rintro e x2 ⟨rfl, bB⟩; obtain ⟨hcB, hfB⟩ := bcell bB)))
  clear z1 z2 c0 c1 c2 c3 c4 c5 c6 c7 c8 c9 c10 c11 c12 c13 c14 e0 e1 e2 e3 e4 e5 e6 e7 e8 e9 e10 e11 e12 e13 e14
  obtain ⟨c0, c1, c2, c3, c4, c5, c6, c7, c8, c9, c10, c11, c12, c13, c14, e0, e1, e2, e3, e4, e5, e6, e7, e8, e9, e10, e11, e12, e13, e14, sb⟩ : _ ∧ _ ∧ _ ∧ _ ∧ _ ∧ _ ∧ _ ∧ _ ∧ _ ∧ _ ∧ _ ∧ _ ∧ _ ∧ _ ∧ _ ∧ _ ∧ _ ∧ _ ∧ _ ∧ _ ∧ _ ∧ _ ∧ _ ∧ _ ∧ _ ∧ _ ∧ _ ∧ _ ∧ _ ∧ _ ∧ Below w0.heap.size w0 _ := (by assumption)
  by_cases ho : a.o = b.o
  · have f1 : (a.o != b.o) = false := by simpa using ho
    have HO := Lib.hid ho
    clear ho
    go_wp2
    all_goals go_ret
    all_goals exact ⟨retI (by rw [HV.out, if_pos HO.out]; first | (simp [numI, *]; done) | (simp [numI, *]; omega)), Below_then hT sb⟩
  · have f1 : (a.o != b.o) = true := by simpa using ho
    have HO := Lib.hid ho
    clear ho
    go_wp2
    go_ret
    exact ⟨retI (by rw [HV.out, if_neg HO.out]; omega), Below_then hT sb⟩
end Go.Proofs.YtlonnkmfjijddaaGreatDoor
