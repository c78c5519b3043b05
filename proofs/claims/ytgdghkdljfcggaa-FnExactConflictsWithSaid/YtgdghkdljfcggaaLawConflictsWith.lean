/- FnExactConflictsWith: for all arguments ConflictsWith of the program returns what ConflictsWith of the reference returns. No condition. -/
import Derived.Test.YtgdghkdljfcggaaRows
import Derived.Test.YtgdghkdljfcggaaConf
import Derived.Test.YtgdghkdljfcggaaGrMark
namespace Go.Proofs.Ytgdghkdljfcggaa.fnExactConflictsWith
open Go.ChangeShapes Go.WideShapes Go.ChangeAt Go.RowKit
set_option linter.unusedVariables false

theorem eqI {A A' : Option Addr} {c c' B B' : Nat} (xs : List Int) (w : World) (h1 : OwnI w B 3 (.slice A xs.length c) xs) (h2 : OwnI w B' 3 (.slice A' xs.length c') xs) (hx : xs.length ≤ 1048576) :
    Calls Try.prog 21 #[.slice A xs.length c, .slice A' xs.length c'] w fun e w' => e = .returned (.bool true) ∧ Below w.heap.size w w' := by
  obtain ⟨A1, c1, e1, r1⟩ := h1.form
  obtain ⟨A2, c2, e2, r2⟩ := h2.form
  injection e1 with e1 _ e1'
  injection e2 with e2 _ e2'
  subst e1 e1' e2 e2'
  exact (eqIntS_any _ _ _ _ xs xs w r1 r2 (by omega) (by omega)).mono fun _ _ ⟨he, hw⟩ => ⟨by rw [he]; simp, hw⟩
theorem heldI {A : Option Addr} {c B : Nat} (xs : List Int) (w : World) (h : OwnI w B 3 (.slice A xs.length c) (marks 1 xs.length)) (hx : xs.length ≤ 1048576) :
    Calls Try.prog 24 #[.slice A xs.length c, .int .i64 1] w fun e w' => e = .returned (.int .i64 (1 + xs.length)) ∧ Below w.heap.size w w' := by
  obtain ⟨A1, c1, e1, r1⟩ := h.form
  rw [marks_len] at e1
  injection e1 with e1 _ e1'
  subst e1 e1'
  have := heldIntS_any A c (marks 1 xs.length) 1 w r1 (by rw [marks_len]; omega) (by omega) (by omega)
  rw [heldR_marks, marks_len] at this
  exact this
set_option maxHeartbeats 8000000 in
theorem walk (w : World) (A0 : Option Addr) (c0 : Nat) (z0 : List GrantD) (u0 : RdR 18 w A0 (gcs z0)) (l0 : z0.length ≤ maxLen) (s0 : ∀ g ∈ z0, g.s.size ≤ maxLen) (a : ArmsD) (wa : ∀ z ∈ [a.d, a.l, a.p, a.q, a.o, a.li, a.t, a.c1, a.k1, a.a1, a.t1, a.c2, a.k2, a.a2, a.t2], (Lit.int .i64 z).wf = true) :
    Calls Try.prog 7 #[.agg #[.slice A0 z0.length c0], .agg (ac a).toArray] w fun e w' => e = .returned (.bool true) ∧ Below w.heap.size w w' := by
  clear wa
  go_enter Try.func7, Try.ntmps7
  go_wp2_with fail
  refine (szRegister_any A0 c0 z0 1048576 _ (u0.below (by (repeat (first | exact Below.refl _ _ | assumption | refine Below_al ?_ _ | refine Below.drew ?_ | refine Below_then ?_ (by assumption) | refine Below.setCell ?_ (by first | omega | (simp; done) | (simp; omega)) _)))) (by omega) (by omega) l0 s0).mono ?_
  rintro e y0 ⟨y, rfl, hy, hy0⟩
  have hT : Below w.heap.size w y0 := by (repeat (first | exact Below.refl _ _ | assumption | refine Below_al ?_ _ | refine Below.drew ?_ | refine Below_then ?_ (by assumption) | refine Below.setCell ?_ (by first | omega | (simp; done) | (simp; omega)) _))
  have hF : y0.heap[w.heap.size]? = some (.cells #[.slice A0 z0.length c0] 24 (0, 0)) := heap_keepB (heap_keepA (heap_hit _ _ _ rfl) _) hy0
  have hG : y0.heap[w.heap.size + 1]? = some (.cells (ac a).toArray 38 (0, 0)) := heap_keepB (heap_hit _ _ _ (by simp)) hy0
  clear hy0
  rcases hy with rfl | ⟨q0, q1, q2⟩
  · go_wp2
    go_ret
    exact ⟨rfl, hT⟩
  have HS := Lib.hid q2
  have hyn : ¬ y < 0 := by omega
  obtain ⟨zs, ok, hzl, KS, KI⟩ : ∃ (zs : List Int) (ok : Bool), zs.length ≤ 1048576 ∧ (∀ (A : Option Addr) (w : World), RdR 18 w A (gcs z0) → Calls Try.prog 27 #[.agg #[.slice A z0.length z0.length], .agg (ac a).toArray] w (IntsOk w zs ok)) ∧ (∀ (A : Option Addr) (w : World), RdR 18 w A (gcs z0) → Calls Try.prog 28 #[.agg #[.slice A z0.length z0.length], .agg (ac a).toArray] w (IntsOk w zs ok)) := ⟨_, _, Nat.le_trans (confL_len z0 a) HS.out, fun A w h => specConflictsWith_any A z0.length z0 a w h HS.out s0, fun A w h => implConflictsWith_any A z0.length z0 a w h HS.out s0 (Nat.le_refl _) l0⟩
  have KS' := Lib.hid KS
  have KI' := Lib.hid KI
  have hM : ¬ (1 + (zs.length : Int) < 0) := by omega
  have hM2 : ¬ (1 + 18 * (z0.length : Int) < 0) := by omega
  clear KS KI l0 s0 q0 q1 q2
  cases ok
  all_goals
    have cF := cell_of hF 0
    have hR := rangeAt_blk hG
    go_wp2_with fail
    refine wp_region_noPanic ?_
    refine wp_region_held_drew (S := (fun w' => w'.cell? ⟨w.heap.size, 0, none⟩ = some (.slice A0 z0.length c0 : Value) ∧ w'.rangeAt (w.heap.size + 1) 0 (ac a) ∧ Below y0.heap.size y0 w')) (by kernel_rfl) ⟨cF, hR, (Below.refl _ _).drew⟩ (fun hHeld => ?_)
    refine wpAnyH_take (i := 0) (oi := _) (v := ?_) rfl (by kernel_rfl) (by kernel_rfl) (by kernel_rfl) (fun _ _ _ h => h) (Or.inl ⟨by rfl, ?_⟩) (by assumption) ?_
    rotate_left
    · intro w hSw; (try dsimp only at hSw); first | (go_simp; done) | (go_simp; with_reducible rfl)
    simp only [Act.put, List.getElem_toArray, List.getElem_cons_succ, List.getElem_cons_zero, List.setIfInBounds_toArray, List.set_cons_zero, List.set_cons_succ]
    refine wpAnyH_take (i := 2) (oi := _) (v := _) rfl ?g1_4 ?g2_4 ?g3_4 (fun _ _ _ h => h) (yieldsIf_load_mid ?g4_4 _ _ rfl (w.heap.size + 1) ?oo_4 ?g5_4 (ac a) _ ?g6_4 Try.underlying38 rfl (info_acL a)) ?g7_4 ?_
    case g5_4 => rfl
    case g1_4 => kernel_rfl
    case g2_4 => kernel_rfl
    case g3_4 => kernel_rfl
    case g6_4 => exact (fun _ h => h.2.1)
    case g4_4 => kernel_rfl
    case g7_4 => assumption
    simp only [Act.put, List.getElem_toArray, List.getElem_cons_succ, List.getElem_cons_zero, List.setIfInBounds_toArray, List.set_cons_zero, List.set_cons_succ]
    refine wpAnyH_ready (rs := [1]) (by kernel_rfl) (by simp) ?_
    refine AllReadyH.cons (o := _) rfl (fun K hK => ?_) AllReadyH.nil
    go_simp
    refine (toRegister_any A0 c0 z0 _ (u0.below (Below_then hT hHeld.2.2)) HS.out).mono ?_
    rintro e s1 ⟨sg, rfl, so, sh1⟩
    go_wp2_with fail
    refine hK.out _ _ ⟨keep_cell hHeld.1 sh1, rangeAt_below hHeld.2.1 sh1, Below_then hHeld.2.2 sh1⟩ (fun hHeld => ?_)
    clear hK K
    try simp only [Act.put, List.getElem_toArray, List.getElem_cons_succ, List.getElem_cons_zero, List.setIfInBounds_toArray, List.set_cons_zero, List.set_cons_succ]
    refine wpAnyH_ready (rs := [3]) (by kernel_rfl) (by simp) ?_
    refine AllReadyH.cons (o := _) rfl (fun K hK => ?_) AllReadyH.nil
    go_simp
    refine (toArmsC a _).mono ?_
    rintro e s2 ⟨rfl, sh2⟩
    go_wp2_with fail
    refine hK.out _ _ ⟨keep_cell hHeld.1 sh2, rangeAt_below hHeld.2.1 sh2, Below_then hHeld.2.2 sh2⟩ (fun hHeld => ?_)
    clear hK K
    try simp only [Act.put, List.getElem_toArray, List.getElem_cons_succ, List.getElem_cons_zero, List.setIfInBounds_toArray, List.set_cons_zero, List.set_cons_succ]
    refine wpAnyH_ready (rs := [4]) (by kernel_rfl) (by simp) ?_
    refine AllReadyH.cons (o := _) rfl (fun K hK => ?_) AllReadyH.nil
    go_simp
    refine (KS'.out _ _ (so.rd.below sh2)).mono ?_
    rintro e y2 ⟨sv, rfl, hoW, sh3⟩
    obtain ⟨sA, sc, rfl, -⟩ := hoW.form
    go_wp2_with fail
    refine hK.out _ _ ⟨keep_cell hHeld.1 sh3, rangeAt_below hHeld.2.1 sh3, Below_then hHeld.2.2 sh3⟩ (fun hHeld => ?_)
    clear hK K
    try simp only [Act.put, List.getElem_toArray, List.getElem_cons_succ, List.getElem_cons_zero, List.setIfInBounds_toArray, List.set_cons_zero, List.set_cons_succ]
    refine wpAnyH_take (i := 5) (oi := _) (v := ?_) rfl (by kernel_rfl) (by kernel_rfl) (by kernel_rfl) (fun _ _ _ h => h) (Or.inl ⟨by rfl, ?_⟩) (by assumption) ?_
    rotate_left
    · intro w hSw; clear hSw; first | (go_simp; done) | (go_simp; with_reducible rfl)
    simp only [Act.put, List.getElem_toArray, List.getElem_cons_succ, List.getElem_cons_zero, List.setIfInBounds_toArray, List.set_cons_zero, List.set_cons_succ]
    refine wpAnyH_take (i := 6) (oi := _) (v := ?_) rfl (by kernel_rfl) (by kernel_rfl) (by kernel_rfl) (fun _ _ _ h => h) (Or.inl ⟨by rfl, ?_⟩) (by assumption) ?_
    rotate_left
    · intro w hSw; clear hSw; first | (go_simp; done) | (go_simp; with_reducible rfl)
    simp only [Act.put, List.getElem_toArray, List.getElem_cons_succ, List.getElem_cons_zero, List.setIfInBounds_toArray, List.set_cons_zero, List.set_cons_succ]
    refine wpAnyH_take (i := 7) (oi := _) (v := ?_) rfl (by kernel_rfl) (by kernel_rfl) (by kernel_rfl) (fun _ _ _ h => h) (Or.inl ⟨by rfl, ?_⟩) (by assumption) ?_
    rotate_left
    · intro w hSw; clear hSw; first | (go_simp; done) | (go_simp; with_reducible rfl)
    simp only [Act.put, List.getElem_toArray, List.getElem_cons_succ, List.getElem_cons_zero, List.setIfInBounds_toArray, List.set_cons_zero, List.set_cons_succ]
    refine wpAnyH_take (i := 8) (oi := _) (v := ?_) rfl (by kernel_rfl) (by kernel_rfl) (by kernel_rfl) (fun _ _ _ h => h) (Or.inl ⟨by rfl, ?_⟩) (by assumption) ?_
    rotate_left
    · intro w hSw; clear hSw; first | (go_simp; done) | (go_simp; with_reducible rfl)
    simp only [Act.put, List.getElem_toArray, List.getElem_cons_succ, List.getElem_cons_zero, List.setIfInBounds_toArray, List.set_cons_zero, List.set_cons_succ]
    refine wpAnyH_take (i := 9) (oi := _) (v := ?_) rfl (by kernel_rfl) (by kernel_rfl) (by kernel_rfl) (fun _ _ _ h => h) (Or.inl ⟨by rfl, ?_⟩) (by assumption) ?_
    rotate_left
    · intro w hSw; clear hSw; first | (go_simp; done) | (go_simp; with_reducible rfl)
    simp only [Act.put, List.getElem_toArray, List.getElem_cons_succ, List.getElem_cons_zero, List.setIfInBounds_toArray, List.set_cons_zero, List.set_cons_succ]
    refine wpAnyH_done (by kernel_rfl) ?_ _
    refine NoPanic.normal ?_
    have sb := hHeld.2.2
    have hT := Below_then hT sb
    have hF := heap_keepB hF sb
    have hG := heap_keepB hG sb
    have cF := cell_of hF 0
    have hWl := hoW.lt
    have hsz := hT.size
    have hFs := heap_lt hF
    have hGs := heap_lt hG
    clear hHeld sb sh1 sh2 sh3 so hR
    go_wp2_with fail
    refine (toRegister_any A0 c0 z0 _ (u0.below hT) HS.out).mono ?_
    rintro e y3 ⟨g2, rfl, hoX, hy3⟩
    have hgl := hoX.low
    have hg2 := heap_lt hoX.blk
    have hWX : ∀ b, Value.ownBlock (.slice sA zs.length sc) = some b → b ≠ g2 := fun b hb e => by
      have := (hWl b hb).2
      omega
    have hT := Below_al (Below_then hT hy3) (.cells #[.slice (some ⟨g2, 0, none⟩) z0.length z0.length] 29 (0, 0))
    have hF := heap_keepA (heap_keepB hF hy3) (.cells #[.slice (some ⟨g2, 0, none⟩) z0.length z0.length] 29 (0, 0))
    have hG := heap_keepA (heap_keepB hG hy3) (.cells #[.slice (some ⟨g2, 0, none⟩) z0.length z0.length] 29 (0, 0))
    have hoW := (hoW.below hy3).alloc (.cells #[.slice (some ⟨g2, 0, none⟩) z0.length z0.length] 29 (0, 0))
    have hX : (y3.alloc (.cells #[.slice (some ⟨g2, 0, none⟩) z0.length z0.length] 29 (0, 0))).heap[y3.heap.size]? = some (.cells #[.slice (some ⟨g2, 0, none⟩) z0.length z0.length] 29 (0, 0)) := heap_hit _ _ _ rfl
    have hoX := hoX.below (Below_al (Below.refl _ _) (.cells #[.slice (some ⟨g2, 0, none⟩) z0.length z0.length] 29 (0, 0)))
    have cX := cell_of hX 0
    have hbl : w.heap.size + 1 < y3.heap.size ∧ g2 < y3.heap.size := by have := hy3.size; omega
    have HWX := Lib.hid hWX
    clear hy3 cF hWl hWX
    have hR := rangeAt_blk hG
    have hgs := heap_lt hX
    go_wp2_with fail
    refine wp_region_noPanic ?_
    refine wp_region_held_drew (S := (fun w' => w'.cell? ⟨y3.heap.size, 0, none⟩ = some (.slice (some ⟨g2, 0, none⟩) z0.length z0.length : Value) ∧ w'.rangeAt (w.heap.size + 1) 0 (ac a) ∧ Below (y3.alloc (.cells #[.slice (some ⟨g2, 0, none⟩) z0.length z0.length] 29 (0, 0))).heap.size (y3.alloc (.cells #[.slice (some ⟨g2, 0, none⟩) z0.length z0.length] 29 (0, 0))) w')) (by kernel_rfl) ⟨cX, hR, (Below.refl _ _).drew⟩ (fun hHeld => ?_)
    refine wpAnyH_take (i := 0) (oi := _) (v := ?_) rfl (by kernel_rfl) (by kernel_rfl) (by kernel_rfl) (fun _ _ _ h => h) (Or.inl ⟨by rfl, ?_⟩) (by assumption) ?_
    rotate_left
    · intro w hSw; (try dsimp only at hSw); first | (go_simp; done) | (go_simp; with_reducible rfl)
    simp only [Act.put, List.getElem_toArray, List.getElem_cons_succ, List.getElem_cons_zero, List.setIfInBounds_toArray, List.set_cons_zero, List.set_cons_succ]
    refine wpAnyH_take (i := 1) (oi := _) (v := _) rfl ?g1_5 ?g2_5 ?g3_5 (fun _ _ _ h => h) (yieldsIf_load_mid ?g4_5 _ _ rfl (w.heap.size + 1) ?oo_5 ?g5_5 (ac a) _ ?g6_5 Try.underlying38 rfl (info_acL a)) ?g7_5 ?_
    case g5_5 => rfl
    case g1_5 => kernel_rfl
    case g2_5 => kernel_rfl
    case g3_5 => kernel_rfl
    case g6_5 => exact (fun _ h => h.2.1)
    case g4_5 => kernel_rfl
    case g7_5 => assumption
    simp only [Act.put, List.getElem_toArray, List.getElem_cons_succ, List.getElem_cons_zero, List.setIfInBounds_toArray, List.set_cons_zero, List.set_cons_succ]
    refine wpAnyH_ready (rs := [2]) (by kernel_rfl) (by simp) ?_
    refine AllReadyH.cons (o := _) rfl (fun K hK => ?_) AllReadyH.nil
    go_simp
    refine (toArmsC a _).mono ?_
    rintro e p2 ⟨rfl, ph2⟩
    go_wp2_with fail
    refine hK.out _ _ ⟨keep_cell hHeld.1 ph2, rangeAt_below hHeld.2.1 ph2, Below_then hHeld.2.2 ph2⟩ (fun hHeld => ?_)
    clear hK K
    try simp only [Act.put, List.getElem_toArray, List.getElem_cons_succ, List.getElem_cons_zero, List.setIfInBounds_toArray, List.set_cons_zero, List.set_cons_succ]
    have hp2 := hHeld.2.2
    have hoW := hoW.below hp2
    refine wpAnyH_ready (rs := [3]) (by kernel_rfl) (by simp) ?_
    refine AllReadyH.cons (o := _) rfl (fun K hK => ?_) AllReadyH.nil
    go_simp
    refine (KI'.out _ _ (hoX.rd.below hHeld.2.2)).mono ?_
    rintro e y4 ⟨gv, rfl, hoG, hy4⟩
    have hap := hoW.apart hoG (Nat.le_refl _)
    have hGlow := fun k hk => (hoG.lt k hk).1
    have hp2s := hp2.size
    obtain ⟨gA, gc', rfl, -⟩ := hoG.form
    go_wp2_with fail
    refine hK.out _ _ ⟨keep_cell hHeld.1 hy4, rangeAt_below hHeld.2.1 hy4, Below_then hHeld.2.2 hy4⟩ (fun hHeld => ?_)
    clear hK K
    try simp only [Act.put, List.getElem_toArray, List.getElem_cons_succ, List.getElem_cons_zero, List.setIfInBounds_toArray, List.set_cons_zero, List.set_cons_succ]
    refine wpAnyH_take (i := 4) (oi := _) (v := ?_) rfl (by kernel_rfl) (by kernel_rfl) (by kernel_rfl) (fun _ _ _ h => h) (Or.inl ⟨by rfl, ?_⟩) (by assumption) ?_
    rotate_left
    · intro w hSw; clear hSw; first | (go_simp; done) | (go_simp; with_reducible rfl)
    simp only [Act.put, List.getElem_toArray, List.getElem_cons_succ, List.getElem_cons_zero, List.setIfInBounds_toArray, List.set_cons_zero, List.set_cons_succ]
    refine wpAnyH_take (i := 5) (oi := _) (v := ?_) rfl (by kernel_rfl) (by kernel_rfl) (by kernel_rfl) (fun _ _ _ h => h) (Or.inl ⟨by rfl, ?_⟩) (by assumption) ?_
    rotate_left
    · intro w hSw; clear hSw; first | (go_simp; done) | (go_simp; with_reducible rfl)
    simp only [Act.put, List.getElem_toArray, List.getElem_cons_succ, List.getElem_cons_zero, List.setIfInBounds_toArray, List.set_cons_zero, List.set_cons_succ]
    refine wpAnyH_take (i := 6) (oi := _) (v := ?_) rfl (by kernel_rfl) (by kernel_rfl) (by kernel_rfl) (fun _ _ _ h => h) (Or.inl ⟨by rfl, ?_⟩) (by assumption) ?_
    rotate_left
    · intro w hSw; clear hSw; first | (go_simp; done) | (go_simp; with_reducible rfl)
    simp only [Act.put, List.getElem_toArray, List.getElem_cons_succ, List.getElem_cons_zero, List.setIfInBounds_toArray, List.set_cons_zero, List.set_cons_succ]
    refine wpAnyH_take (i := 7) (oi := _) (v := ?_) rfl (by kernel_rfl) (by kernel_rfl) (by kernel_rfl) (fun _ _ _ h => h) (Or.inl ⟨by rfl, ?_⟩) (by assumption) ?_
    rotate_left
    · intro w hSw; clear hSw; first | (go_simp; done) | (go_simp; with_reducible rfl)
    simp only [Act.put, List.getElem_toArray, List.getElem_cons_succ, List.getElem_cons_zero, List.setIfInBounds_toArray, List.set_cons_zero, List.set_cons_succ]
    refine wpAnyH_take (i := 8) (oi := _) (v := ?_) rfl (by kernel_rfl) (by kernel_rfl) (by kernel_rfl) (fun _ _ _ h => h) (Or.inl ⟨by rfl, ?_⟩) (by assumption) ?_
    rotate_left
    · intro w hSw; clear hSw; first | (go_simp; done) | (go_simp; with_reducible rfl)
    simp only [Act.put, List.getElem_toArray, List.getElem_cons_succ, List.getElem_cons_zero, List.setIfInBounds_toArray, List.set_cons_zero, List.set_cons_succ]
    refine wpAnyH_done (by kernel_rfl) ?_ _
    refine NoPanic.normal ?_
    have hoW := hoW.below hy4
    replace hy4 := hHeld.2.2
    have hGX : (Value.slice gA zs.length gc').ownBlock ≠ some g2 := fun e => by have := hGlow g2 e; omega
    have hGB : (Value.slice gA zs.length gc').ownBlock ≠ some y3.heap.size := fun e => by have := hGlow _ e; omega
    have hGF : (Value.slice gA zs.length gc').ownBlock ≠ some w.heap.size := fun e => by have := hGlow _ e; omega
    have hGF2 : (Value.slice gA zs.length gc').ownBlock ≠ some (w.heap.size + 1) := fun e => by have := hGlow _ e; omega
    have HGF2 := Lib.hid hGF2
    clear hGF2
    have htop : ∀ k, (Value.slice gA zs.length gc').ownBlock = some k → w.heap.size ≤ k := fun k hk => by have := hGlow k hk; have := hT.size; omega
    have hT := Below_then hT hy4
    have hF := heap_keepB hF hy4
    have hG := heap_keepB hG hy4
    have hX := heap_keepB hX hy4
    have hoX := hoX.below hy4
    have HAP := Lib.hid hap
    have HGX := Lib.hid hGX
    have HGB := Lib.hid hGB
    have HGF := Lib.hid hGF
    have HTOP := Lib.hid htop
    clear hHeld hR hp2 hp2s ph2 hy4 hap hGX hGB hGF htop hGlow cX
    go_wp2_with fail
    refine (eqI zs _ hoG hoW hzl).mono ?_
    rintro e y5 ⟨rfl, hy5⟩
    have hT := Below_then hT hy5
    have hF := heap_keepB hF hy5
    have hG := heap_keepB hG hy5
    have hX := heap_keepB hX hy5
    have hoX := hoX.below hy5
    have hoW := hoW.below hy5
    have hoG := hoG.below hy5
    have cX := cell_of hX 0
    have cF := cell_of hF 0
    clear hy5
    go_wp2_with fail
    refine wp_region_noPanic ?_
    refine wp_region_held_drew (S := (fun w' => w'.cell? ⟨y3.heap.size, 0, none⟩ = some (.slice (some ⟨g2, 0, none⟩) z0.length z0.length : Value) ∧ w'.cell? ⟨w.heap.size, 0, none⟩ = some (.slice A0 z0.length c0 : Value) ∧ Below y5.heap.size y5 w')) (by kernel_rfl) ⟨cX, cF, (Below.refl _ _).drew⟩ (fun hHeld => ?_)
    refine wpAnyH_take (i := 0) (oi := _) (v := ?_) rfl (by kernel_rfl) (by kernel_rfl) (by kernel_rfl) (fun _ _ _ h => h) (Or.inl ⟨by rfl, ?_⟩) (by assumption) ?_
    rotate_left
    · intro w hSw; (try dsimp only at hSw); first | (go_simp; done) | (go_simp; with_reducible rfl)
    simp only [Act.put, List.getElem_toArray, List.getElem_cons_succ, List.getElem_cons_zero, List.setIfInBounds_toArray, List.set_cons_zero, List.set_cons_succ]
    refine wpAnyH_take (i := 1) (oi := _) (v := ?_) rfl (by kernel_rfl) (by kernel_rfl) (by kernel_rfl) (fun _ _ _ h => h) (Or.inl ⟨by rfl, ?_⟩) (by assumption) ?_
    rotate_left
    · intro w hSw; (try dsimp only at hSw); first | (go_simp; done) | (go_simp; with_reducible rfl)
    simp only [Act.put, List.getElem_toArray, List.getElem_cons_succ, List.getElem_cons_zero, List.setIfInBounds_toArray, List.set_cons_zero, List.set_cons_succ]
    refine wpAnyH_ready (rs := [2]) (by kernel_rfl) (by simp) ?_
    refine AllReadyH.cons (o := _) rfl (fun K hK => ?_) AllReadyH.nil
    go_simp
    refine (toRegister_any A0 c0 z0 _ (u0.below (Below_then hT hHeld.2.2)) HS.out).mono ?_
    rintro e v1 ⟨vg, rfl, vo, vh1⟩
    go_wp2_with fail
    refine hK.out _ _ ⟨keep_cell hHeld.1 vh1, keep_cell hHeld.2.1 vh1, Below_then hHeld.2.2 vh1⟩ (fun hHeld => ?_)
    clear hK K
    try simp only [Act.put, List.getElem_toArray, List.getElem_cons_succ, List.getElem_cons_zero, List.setIfInBounds_toArray, List.set_cons_zero, List.set_cons_succ]
    refine wpAnyH_ready (rs := [3]) (by kernel_rfl) (by simp) ?_
    refine AllReadyH.cons (o := _) rfl (fun K hK => ?_) AllReadyH.nil
    go_simp
    refine (eqRegister_same _ _ _ _ z0 _ (hoX.rd.below hHeld.2.2) vo.rd HS.out).mono ?_
    rintro e v2 ⟨rfl, vh2⟩
    go_wp2_with fail
    refine hK.out _ _ ⟨keep_cell hHeld.1 vh2, keep_cell hHeld.2.1 vh2, Below_then hHeld.2.2 vh2⟩ (fun hHeld => ?_)
    clear hK K
    try simp only [Act.put, List.getElem_toArray, List.getElem_cons_succ, List.getElem_cons_zero, List.setIfInBounds_toArray, List.set_cons_zero, List.set_cons_succ]
    refine wpAnyH_take (i := 4) (oi := _) (v := ?_) rfl (by kernel_rfl) (by kernel_rfl) (by kernel_rfl) (fun _ _ _ h => h) (Or.inl ⟨by rfl, ?_⟩) (by assumption) ?_
    rotate_left
    · intro w hSw; clear hSw; first | (go_simp; done) | (go_simp; with_reducible rfl)
    simp only [Act.put, List.getElem_toArray, List.getElem_cons_succ, List.getElem_cons_zero, List.setIfInBounds_toArray, List.set_cons_zero, List.set_cons_succ]
    refine wpAnyH_done (by kernel_rfl) ?_ _
    refine NoPanic.normal ?_

    have hb6 := hHeld.2.2
    have hT := Below_then hT hb6
    have hF := heap_keepB hF hb6
    have hG := heap_keepB hG hb6
    have hX := heap_keepB hX hb6
    have hoX := hoX.below hb6
    have hoW := hoW.below hb6
    have hoG := hoG.below hb6
    have cX := cell_of hX 0
    have hBk := hoX.toBlk
    rw [gcs_len] at hBk
    clear hb6 hHeld cF vh1 vh2 vo
    go_wp2_with fail
    refine (markRegister_any g2 z0.length z0.length 1 _ hBk HS.out (by omega) (by omega)).mono ?_
    rintro e y7 ⟨rfl, hg7⟩
    have hT := hT.grown hg7 hT.size (fun k hk => by injection hk with hk; omega)
    have hF := heap_keepG hF hg7 (fun e => by injection e with e; omega)
    have hG := heap_keepG hG hg7 (fun e => by injection e with e; omega)
    have hoW := hoW.other hg7 (by
      cases e : Value.ownBlock (.slice sA zs.length sc) with
      | none => exact .inl rfl
      | some b => exact .inr fun e2 => HWX.out b e (by injection e2))
    have hoG := hoG.other hg7 (.inr HGX.out)
    clear hg7 hoX hBk hX cX
    go_wp2_with fail
    refine (eqI zs _ hoG hoW hzl).mono ?_
    rintro e y8 ⟨rfl, hy8⟩
    have hT := Below_then hT hy8
    have hF := heap_keepB hF hy8
    have hG := heap_keepB hG hy8
    have hoW := hoW.below hy8
    have hoG := hoG.below hy8
    clear hy8
    go_wp2_with fail
    refine (markIntS_any _ _ zs 1 _ hoG (by omega) (by omega) (by omega)).mono ?_
    rintro e y9 ⟨rfl, hmG, hg9⟩
    have hT := hT.grown hg9 hT.size HTOP.out
    have hF := heap_keepG hF hg9 HGF.out
    have hG := heap_keepG hG hg9 HGF2.out
    have hoW := hoW.other hg9 HAP.out
    clear hg9 hoG
    go_wp2_with fail
    refine (heldI zs _ hmG hzl).mono ?_
    rintro e ya ⟨rfl, hya⟩
    have hT := Below_then hT hya
    have hF := heap_keepB hF hya
    have hG := heap_keepB hG hya
    have hoW := hoW.below hya
    have hmG := hmG.below hya
    have cF := cell_of hF 0
    have hR := rangeAt_blk hG
    clear hya
    go_wp2_with fail
    refine wp_region_noPanic ?_
    refine wp_region_held_drew (S := (fun w' => w'.cell? ⟨w.heap.size, 0, none⟩ = some (.slice A0 z0.length c0 : Value) ∧ w'.rangeAt (w.heap.size + 1) 0 (ac a) ∧ Below ya.heap.size ya w')) (by kernel_rfl) ⟨cF, hR, (Below.refl _ _).drew⟩ (fun hHeld => ?_)
    refine wpAnyH_take (i := 0) (oi := _) (v := ?_) rfl (by kernel_rfl) (by kernel_rfl) (by kernel_rfl) (fun _ _ _ h => h) (Or.inl ⟨by rfl, ?_⟩) (by assumption) ?_
    rotate_left
    · intro w hSw; (try dsimp only at hSw); first | (go_simp; done) | (go_simp; with_reducible rfl)
    simp only [Act.put, List.getElem_toArray, List.getElem_cons_succ, List.getElem_cons_zero, List.setIfInBounds_toArray, List.set_cons_zero, List.set_cons_succ]
    refine wpAnyH_take (i := 2) (oi := _) (v := _) rfl ?g1_6 ?g2_6 ?g3_6 (fun _ _ _ h => h) (yieldsIf_load_mid ?g4_6 _ _ rfl (w.heap.size + 1) ?oo_6 ?g5_6 (ac a) _ ?g6_6 Try.underlying38 rfl (info_acL a)) ?g7_6 ?_
    case g5_6 => rfl
    case g1_6 => kernel_rfl
    case g2_6 => kernel_rfl
    case g3_6 => kernel_rfl
    case g6_6 => exact (fun _ h => h.2.1)
    case g4_6 => kernel_rfl
    case g7_6 => assumption
    simp only [Act.put, List.getElem_toArray, List.getElem_cons_succ, List.getElem_cons_zero, List.setIfInBounds_toArray, List.set_cons_zero, List.set_cons_succ]
    refine wpAnyH_ready (rs := [1]) (by kernel_rfl) (by simp) ?_
    refine AllReadyH.cons (o := _) rfl (fun K hK => ?_) AllReadyH.nil
    go_simp
    refine (toRegister_any A0 c0 z0 _ (u0.below (Below_then hT hHeld.2.2)) HS.out).mono ?_
    rintro e t1 ⟨tg, rfl, tto, th1⟩
    go_wp2_with fail
    refine hK.out _ _ ⟨keep_cell hHeld.1 th1, rangeAt_below hHeld.2.1 th1, Below_then hHeld.2.2 th1⟩ (fun hHeld => ?_)
    clear hK K
    try simp only [Act.put, List.getElem_toArray, List.getElem_cons_succ, List.getElem_cons_zero, List.setIfInBounds_toArray, List.set_cons_zero, List.set_cons_succ]
    refine wpAnyH_ready (rs := [3]) (by kernel_rfl) (by simp) ?_
    refine AllReadyH.cons (o := _) rfl (fun K hK => ?_) AllReadyH.nil
    go_simp
    refine (toArmsC a _).mono ?_
    rintro e t2 ⟨rfl, th2⟩
    go_wp2_with fail
    refine hK.out _ _ ⟨keep_cell hHeld.1 th2, rangeAt_below hHeld.2.1 th2, Below_then hHeld.2.2 th2⟩ (fun hHeld => ?_)
    clear hK K
    try simp only [Act.put, List.getElem_toArray, List.getElem_cons_succ, List.getElem_cons_zero, List.setIfInBounds_toArray, List.set_cons_zero, List.set_cons_succ]
    refine wpAnyH_ready (rs := [4]) (by kernel_rfl) (by simp) ?_
    refine AllReadyH.cons (o := _) rfl (fun K hK => ?_) AllReadyH.nil
    go_simp
    refine (KI'.out _ _ (tto.rd.below th2)).mono ?_
    rintro e yc ⟨tv, rfl, hoH, th3⟩
    obtain ⟨tA, tc, rfl, -⟩ := hoH.form
    go_wp2_with fail
    refine hK.out _ _ ⟨keep_cell hHeld.1 th3, rangeAt_below hHeld.2.1 th3, Below_then hHeld.2.2 th3⟩ (fun hHeld => ?_)
    clear hK K
    try simp only [Act.put, List.getElem_toArray, List.getElem_cons_succ, List.getElem_cons_zero, List.setIfInBounds_toArray, List.set_cons_zero, List.set_cons_succ]
    refine wpAnyH_take (i := 5) (oi := _) (v := ?_) rfl (by kernel_rfl) (by kernel_rfl) (by kernel_rfl) (fun _ _ _ h => h) (Or.inl ⟨by rfl, ?_⟩) (by assumption) ?_
    rotate_left
    · intro w hSw; clear hSw; first | (go_simp; done) | (go_simp; with_reducible rfl)
    simp only [Act.put, List.getElem_toArray, List.getElem_cons_succ, List.getElem_cons_zero, List.setIfInBounds_toArray, List.set_cons_zero, List.set_cons_succ]
    refine wpAnyH_take (i := 6) (oi := _) (v := ?_) rfl (by kernel_rfl) (by kernel_rfl) (by kernel_rfl) (fun _ _ _ h => h) (Or.inl ⟨by rfl, ?_⟩) (by assumption) ?_
    rotate_left
    · intro w hSw; clear hSw; first | (go_simp; done) | (go_simp; with_reducible rfl)
    simp only [Act.put, List.getElem_toArray, List.getElem_cons_succ, List.getElem_cons_zero, List.setIfInBounds_toArray, List.set_cons_zero, List.set_cons_succ]
    refine wpAnyH_take (i := 7) (oi := _) (v := ?_) rfl (by kernel_rfl) (by kernel_rfl) (by kernel_rfl) (fun _ _ _ h => h) (Or.inl ⟨by rfl, ?_⟩) (by assumption) ?_
    rotate_left
    · intro w hSw; clear hSw; first | (go_simp; done) | (go_simp; with_reducible rfl)
    simp only [Act.put, List.getElem_toArray, List.getElem_cons_succ, List.getElem_cons_zero, List.setIfInBounds_toArray, List.set_cons_zero, List.set_cons_succ]
    refine wpAnyH_take (i := 8) (oi := _) (v := ?_) rfl (by kernel_rfl) (by kernel_rfl) (by kernel_rfl) (fun _ _ _ h => h) (Or.inl ⟨by rfl, ?_⟩) (by assumption) ?_
    rotate_left
    · intro w hSw; clear hSw; first | (go_simp; done) | (go_simp; with_reducible rfl)
    simp only [Act.put, List.getElem_toArray, List.getElem_cons_succ, List.getElem_cons_zero, List.setIfInBounds_toArray, List.set_cons_zero, List.set_cons_succ]
    refine wpAnyH_take (i := 9) (oi := _) (v := ?_) rfl (by kernel_rfl) (by kernel_rfl) (by kernel_rfl) (fun _ _ _ h => h) (Or.inl ⟨by rfl, ?_⟩) (by assumption) ?_
    rotate_left
    · intro w hSw; clear hSw; first | (go_simp; done) | (go_simp; with_reducible rfl)
    simp only [Act.put, List.getElem_toArray, List.getElem_cons_succ, List.getElem_cons_zero, List.setIfInBounds_toArray, List.set_cons_zero, List.set_cons_succ]
    refine wpAnyH_done (by kernel_rfl) ?_ _
    refine NoPanic.normal ?_
    have sb := hHeld.2.2
    have hT := Below_then hT sb
    have hoW := hoW.below sb
    have hmG := hmG.below sb
    clear hHeld sb th1 th2 th3 tto hR hF hG cF
    go_wp2_with fail
    refine (eqI zs _ hoH hoW hzl).mono ?_
    rintro e yd ⟨rfl, hyd⟩
    have hT := Below_then hT hyd
    have hmG := hmG.below hyd
    clear hyd hoH hoW
    go_wp2_with fail
    refine (heldI zs _ hmG hzl).mono ?_
    rintro e ye ⟨rfl, hye⟩
    have hT := Below_then hT hye
    clear hye hmG
    go_wp2
    go_ret
    exact ⟨rfl, hT⟩

/-! ### The row's step: written by a program of mine (frame.py) after the kit's shell -/
theorem laidOut : laidOutB Try.prog = true := by kernel_rfl
set_option maxRecDepth 100000 in
theorem lifted (os : Os) (started : os.Started) (H : Type) (enc : TypeId × Value → H) :
    ReturnsInHanded {} Try.checked os 7 .any (Rows.fnExactConflictsWithSpec.pre6 enc Try.prog Try.f7 Rows.fnExactConflictsWithRow.domain false) (Rows.fnExactConflictsWithSpec.post enc Try.prog Try.f7 false true false false) := by
  refine returnsInHanded_of_change (C := Try.checked) own started (by kernel_rfl) Try.func7
    (ChangeSpec.witness6 (enc := enc) (C := Try.checked) false ⟨#[], #[.agg #[.slice none 0 0], .agg #[.int .i64 0, .int .i64 0, .int .i64 0, .int .i64 0, .int .i64 0, .int .i64 0, .int .i64 0, .int .i64 0, .int .i64 0, .int .i64 0, .int .i64 0, .int .i64 0, .int .i64 0, .int .i64 0, .int .i64 0]], []⟩ 8 (by kernel_rfl) (by kernel_rfl) (by kernel_rfl) (by kernel_rfl)) ?_
  intro W base args ds gs before hval0 hW hcnd _
  have hval : ∀ (j : Nat) t v, Try.f7.params[j]? = some t → args[j]? = some v → Value.okWide Try.prog W .any base t v := hval0
  have hW' := hW
  obtain ⟨p, q, hA0, hV, rfl, hfz, hnd⟩ := hW
  have hA : DataW.TrodAll enc Try.prog W 0 (fun _ => true) true Try.f7.params.toList args.toList ds p := hA0
  rw [Try.params7] at hA hval
  obtain ⟨v0, vs0, d0, ds0, p0, q0, hargs, rfl, rfl, h0, r0⟩ := trodAll_cons hA
  obtain ⟨v1, vs1, d1, ds1, p1, q1, rfl, rfl, rfl, h1, r1⟩ := trodAll_cons r0
  obtain ⟨rfl, rfl, rfl⟩ := trodAll_nil r1
  obtain rfl : args = #[v0, v1] := by cases args; simp_all
  obtain ⟨rfl, rfl⟩ := trodVars_none hV
  have k0 := h0
  have lt0 : ∀ x ∈ p0, x.block < W.heap.size := by obtain ⟨m, hm⟩ := k0; exact DataW.trod_lt m _ _ _ hm
  obtain ⟨A0, c0, z0, rfl, u0, l0, s0⟩ := openRegister (hval 0 24 v0 rfl rfl) h0
  have k1 := h1
  have lt1 : ∀ x ∈ p1, x.block < W.heap.size := by obtain ⟨m, hm⟩ := k1; exact DataW.trod_lt m _ _ _ hm
  obtain ⟨a1, rfl, w1⟩ := openArms (hval 1 38 v1 rfl rfl) h1
  clear hA0 hval0
  refine (walk W A0 c0 z0 u0 l0 s0 a1 w1).mono fun e W' ⟨he, bel⟩ => ?_
  subst he
  exact ⟨_, rfl, _, _, _, [], _, [], hW', trodAll_mk1 (shut_bool Try.underlying4 _), (trodAll_cons_mk (Below.trod laidOut (by kernel_rfl) (of_decide_eq_true (by kernel_rfl)) k0 bel lt0) (trodAll_cons_mk (Below.trod laidOut (by kernel_rfl) (of_decide_eq_true (by kernel_rfl)) k1 bel lt1) trodAll_mk0)), rfl, bel.frame _, fun h => by cases h⟩

theorem over : Rows.fnExactConflictsWithRow.holds Try.pinned (OpenSpec.ofChange Rows.fnExactConflictsWithSpec) :=
  OpenClaim.holds_of_wide 7 Try.f7 rfl rfl rfl rfl rfl rfl rfl ⟨rfl, rfl, rfl, rfl, rfl⟩ rfl rfl rfl rfl rfl (by kernel_rfl) Try.func7 (by kernel_rfl)
    (of_decide_eq_true (by kernel_rfl)) (by unfold Func.isWrapper; first | (rw [if_pos (by decide +kernel)]; kernel_rfl) | (rw [if_neg (by decide +kernel)]; exact ⟨rfl, rfl⟩))
    (fun os started H enc _ => lifted os started H enc)

theorem proved : Rows.FnExactConflictsWithSaid := over
#print axioms proved

end Go.Proofs.Ytgdghkdljfcggaa.fnExactConflictsWith
