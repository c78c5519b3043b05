/- RepairArms of the reference. -/
import Derived.Test.YtjodoljgpdbimaaRep3
import Derived.Test.YtjodoljgpdbimaaRep2
import Derived.Deep.RegionWith
namespace Go.Proofs.Ytjodoljgpdbimaa
open Go.ChangeShapes Go.WideShapes Go.ChangeAt Go.RowKit
set_option linter.unusedVariables false
set_option linter.unusedSimpArgs false
/-- What the reference keeps as 'least'. -/
def lz (S : RS) : Int := if S.1 = 4 then -1 else (S.1 : Int)
theorem lz_lt {S : RS} (h : S.1 ≤ 4) {c : Nat} (hc : c ≤ 3) : (decide (lz S < 0) || decide ((c : Int) < lz S)) = decide (c < S.1) := by
  unfold lz
  split
  · simp; omega
  · by_cases h2 : c < S.1 <;> simp <;> omega
theorem lz_c {c : Nat} {b : ArmsD} (h : c ≤ 3) : (c : Int) = lz (c, b) := by
  unfold lz
  rw [if_neg (by show ¬ c = 4; omega)]
theorem nine {w : World} {b : Nat} {a : ArmsD} (h : Box15 w b a) : w.cell? ⟨b, 4, none⟩ = some (.int .i64 a.o) ∧ w.cell? ⟨b, 7, none⟩ = some (.int .i64 a.c1) ∧ w.cell? ⟨b, 8, none⟩ = some (.int .i64 a.k1) ∧ w.cell? ⟨b, 9, none⟩ = some (.int .i64 a.a1) ∧ w.cell? ⟨b, 10, none⟩ = some (.int .i64 a.t1) ∧ w.cell? ⟨b, 11, none⟩ = some (.int .i64 a.c2) ∧ w.cell? ⟨b, 12, none⟩ = some (.int .i64 a.k2) ∧ w.cell? ⟨b, 13, none⟩ = some (.int .i64 a.a2) ∧ w.cell? ⟨b, 14, none⟩ = some (.int .i64 a.t2) :=
  ⟨h.cell 4 _ rfl, h.cell 7 _ rfl, h.cell 8 _ rfl, h.cell 9 _ rfl, h.cell 10 _ rfl, h.cell 11 _ rfl, h.cell 12 _ rfl, h.cell 13 _ rfl, h.cell 14 _ rfl⟩
theorem chL_of {q : Bool} {t : Int} (h : q = !decide (t = 0)) : (bif q then ALLT else [0]) = chL t := by
  subst h
  unfold chL
  by_cases h : t = 0 <;> simp [h]
theorem o_t {a : ArmsD} (ga : armsOk a = true) : (a.o != 0) = !decide (a.t = 0) := by
  unfold armsOk ordOk at ga
  by_cases h : a.o = 0
  · simp [h] at ga
    simp [h, ga]
  · simp [h] at ga
    have : ¬ a.t = 0 := by omega
    simp [h, this]
theorem g_t {c k x t : Int} (h : groupAny c k x t = true) : (!groupNone c k x t) = !decide (t = 0) := by
  unfold groupAny groupNone groupOk at h
  by_cases h0 : t = 0
  · subst h0
    simp at h
    simp [groupNone, h]
  · simp [groupNone, h0]
theorem g1_t {a : ArmsD} (ga : armsOk a = true) : (!groupNone a.c1 a.k1 a.a1 a.t1) = !decide (a.t1 = 0) := by
  refine g_t ?_
  unfold armsOk at ga
  by_cases h : a.o = 0
  · simp [h] at ga
    unfold groupAny
    simp [ga]
  · simp [h] at ga
    simp [ga]
theorem g2_t {a : ArmsD} (ga : armsOk a = true) : (!groupNone a.c2 a.k2 a.a2 a.t2) = !decide (a.t2 = 0) := by
  refine g_t ?_
  unfold armsOk at ga
  by_cases h : a.o = 0
  · simp [h] at ga
    simp [ga]
  · simp [h] at ga
    simp [ga]
set_option maxHeartbeats 8000000 in
set_option maxRecDepth 20000 in
theorem specRepair_yes (a : ArmsD) (ga : armsOk a = true) (w : World) : Calls Try.prog 5 #[.agg (ac a).toArray] w (RepIs w a) := by
  have KV := fun w => l5GoodC a w
  rw [ga] at KV
  have KV' := Lib.hid KV
  obtain ⟨T0, hT0⟩ : ∃ T0, T0 = (w.alloc (.cells (ac a).toArray 31)).alloc (.cells (ac zA).toArray 31) := ⟨_, rfl⟩
  have hsz : T0.heap.size = w.heap.size + 2 := by rw [hT0]; simp
  have HHa := Lib.hid (show ∀ w', Below T0.heap.size T0 w' → w'.heap[w.heap.size]? = some (.cells (ac a).toArray 31 (0, 0)) from fun w' hb => heap_keepB (heap_keepB (heap_hit _ _ _ rfl) (Below_al (Below.refl _ _) _)) (hT0 ▸ hb))
  have HHz := Lib.hid (show ∀ w', Below T0.heap.size T0 w' → w'.heap[w.heap.size + 1]? = some (.cells (ac zA).toArray 31 (0, 0)) from fun w' hb => heap_keepB (by rw [hT0]; exact heap_hit _ _ _ (by simp)) hb)
  have HB := Lib.hid (show ∀ w', Below T0.heap.size T0 w' → Box15 w' w.heap.size a from fun w' hb => box15 a w w' (Below_then (Below_al (Below.refl _ _) _) (hT0 ▸ hb)))
  have HTw := Lib.hid (show Below w.heap.size w T0 from by rw [hT0]; (repeat (first | exact Below.refl _ _ | assumption | refine Below_al ?_ _ | refine Below.drew ?_ | refine Below_then ?_ (by assumption) | refine Below.setCell ?_ (by first | omega | (simp; done) | (simp; omega)) _)))
  obtain ⟨xs, hxs⟩ : ∃ xs, xs = chL a.t := ⟨_, rfl⟩
  obtain ⟨ys, hys⟩ : ∃ ys, ys = chL a.t1 := ⟨_, rfl⟩
  obtain ⟨zs, hzs⟩ : ∃ zs, zs = chL a.t2 := ⟨_, rfl⟩
  have hl1 : xs.length ≤ 9 := hxs ▸ chL_len _
  have hl2 : ys.length ≤ 9 := hys ▸ chL_len _
  have hl3 : zs.length ≤ 9 := hzs ▸ chL_len _
  have hp1 : 0 < xs.length := hxs ▸ chL_pos _
  have hp2 : 0 < ys.length := hys ▸ chL_pos _
  have hp3 : 0 < zs.length := hzs ▸ chL_pos _
  have K1 := Lib.hid (fun w => (hxs.trans (chL_of (o_t ga)).symm) ▸ l8Choices_any (a.o != 0) w : ∀ w, Calls Try.prog 19 #[.bool (a.o != 0)] w (IntsIn w xs))
  have K2 := Lib.hid (fun w => (hys.trans (chL_of (g1_t ga)).symm) ▸ l8Choices_any (!groupNone a.c1 a.k1 a.a1 a.t1) w : ∀ w, Calls Try.prog 19 #[.bool (!groupNone a.c1 a.k1 a.a1 a.t1)] w (IntsIn w ys))
  have K3 := Lib.hid (fun w => (hzs.trans (chL_of (g2_t ga)).symm) ▸ l8Choices_any (!groupNone a.c2 a.k2 a.a2 a.t2) w : ∀ w, Calls Try.prog 19 #[.bool (!groupNone a.c2 a.k2 a.a2 a.t2)] w (IntsIn w zs))
  have KN1 := Lib.hid (fun w => l4None_any a.c1 a.k1 a.a1 a.t1 w)
  have KN2 := Lib.hid (fun w => l4None_any a.c2 a.k2 a.a2 a.t2 w)
  have HFin := Lib.hid (show finR a = rX a ys zs (4, zA) xs from by rw [hxs, hys, hzs]; rfl)
  clear KV hxs hys hzs
  go_enter Try.func5, Try.ntmps5
  go_wp2_with (first | (refine ldAw (by kernel_rfl) _ rfl w.heap.size _ rfl a (rangeAt_blk (heap_keepB (heap_hit _ _ _ rfl) (Below_al (Below.refl _ _) _))) ?_) | fail)
  refine (KV'.out _).mono ?_
  rintro e w1 ⟨rfl, hb1⟩
  have HL1 := Lib.hid (show Below T0.heap.size T0 w1 from by rw [hT0]; exact hb1)
  have hDw : T0.heap.size ≤ w1.heap.size := HL1.out.size
  clear hb1 hT0
  go_upto_region 4 with fail
  go_cut [7, 8, 9] (fun v1 v2 v3 wx => ∃ (g1 g2 g3 k1 k2 k3 : Nat), v1 = .slice (some ⟨g1, 0, none⟩) xs.length k1 ∧ v2 = .slice (some ⟨g2, 0, none⟩) ys.length k2 ∧ v3 = .slice (some ⟨g3, 0, none⟩) zs.length k3 ∧ RdI wx (some ⟨g1, 0, none⟩) xs ∧ RdI wx (some ⟨g2, 0, none⟩) ys ∧ RdI wx (some ⟨g3, 0, none⟩) zs ∧ w1.heap.size < g1 ∧ w1.heap.size < g2 ∧ w1.heap.size < g3 ∧ Below (w1.heap.size + 1) (w1.alloc (.cells (ac zA).toArray 31)) wx)
  case first =>
    have hlow := Below_then HL1.out (Below_al (Below.refl _ _) (.cells (ac zA).toArray 31))
    obtain ⟨W1, hW1⟩ : ∃ W1, W1 = w1.alloc (.cells (ac zA).toArray 31) := ⟨_, rfl⟩
    have hsz1 : W1.heap.size = w1.heap.size + 1 := by rw [hW1]; simp
    rw [← hW1] at hlow
    have HT : ∀ w', Below W1.heap.size W1 w' → Below (w1.heap.size + 1) (w1.alloc (.cells (ac zA).toArray 31)) w' := fun w' h => by rw [← hW1, ← hsz1]; exact h
    have HT := Lib.hid HT
    show Code.wp _ _ _ _ _
    rw [show w1.alloc (.cells #[.int .i64 0, .int .i64 0, .int .i64 0, .int .i64 0, .int .i64 0, .int .i64 0, .int .i64 0, .int .i64 0, .int .i64 0, .int .i64 0, .int .i64 0, .int .i64 0, .int .i64 0, .int .i64 0, .int .i64 0] 31 (0, 0)) = W1 from hW1.symm]
    clear hW1
    show Code.wp _ _ _ _ _
    refine wp_region_noPanic ?_
    refine wp_region_held_drew (S := (fun w' => Below W1.heap.size W1 w')) (by kernel_rfl) (Below.refl _ _).drew (fun hHeld => ?_)
    refine wpAnyH_take (i := 0) (oi := _) (v := ?_) rfl (by kernel_rfl) (by kernel_rfl) (by kernel_rfl) (fun _ _ _ h => h) (Or.inl ⟨by rfl, ?_⟩) (by assumption) ?_
    rotate_left
    · intro w hSw; clear hSw; first | (go_simp; done) | (go_simp; with_reducible rfl)
    simp only [Act.put, List.getElem_toArray, List.getElem_cons_succ, List.getElem_cons_zero, List.setIfInBounds_toArray, List.set_cons_zero, List.set_cons_succ]
    refine wpAnyH_take (i := 1) (oi := _) (v := ?_) rfl (by kernel_rfl) (by kernel_rfl) (by kernel_rfl) (fun _ _ _ h => h) (Or.inl ⟨by rfl, ?_⟩) (by assumption) ?_
    rotate_left
    · intro w9 hSw; (try dsimp only at hSw); have hq := (HB.out _ (Below_then hlow hSw)).o; clear hSw; first | (go_simp; done) | (go_simp; with_reducible rfl)
    simp only [Act.put, List.getElem_toArray, List.getElem_cons_succ, List.getElem_cons_zero, List.setIfInBounds_toArray, List.set_cons_zero, List.set_cons_succ]
    refine wpAnyH_take (i := 2) (oi := _) (v := ?_) rfl (by kernel_rfl) (by kernel_rfl) (by kernel_rfl) (fun _ _ _ h => h) (Or.inl ⟨by rfl, ?_⟩) (by assumption) ?_
    rotate_left
    · intro w hSw; clear hSw; first | (go_simp; done) | (go_simp; with_reducible rfl)
    simp only [Act.put, List.getElem_toArray, List.getElem_cons_succ, List.getElem_cons_zero, List.setIfInBounds_toArray, List.set_cons_zero, List.set_cons_succ]
    refine wpAnyH_take (i := 4) (oi := _) (v := ?_) rfl (by kernel_rfl) (by kernel_rfl) (by kernel_rfl) (fun _ _ _ h => h) (Or.inl ⟨by rfl, ?_⟩) (by assumption) ?_
    rotate_left
    · intro w hSw; clear hSw; first | (go_simp; done) | (go_simp; with_reducible rfl)
    simp only [Act.put, List.getElem_toArray, List.getElem_cons_succ, List.getElem_cons_zero, List.setIfInBounds_toArray, List.set_cons_zero, List.set_cons_succ]
    refine wpAnyH_take (i := 5) (oi := _) (v := _) rfl ?g1_1 ?g2_1 ?g3_1 (fun _ _ _ h => h) (yieldsIf_load_mid ?g4_1 _ _ rfl w.heap.size ?oo_1 ?g5_1 [.int .i64 a.c1, .int .i64 a.k1, .int .i64 a.a1, .int .i64 a.t1] _ ?g6_1 Try.underlying29 rfl (by kernel_rfl)) ?g7_1 ?_
    case g5_1 => rfl
    case g1_1 => kernel_rfl
    case g2_1 => kernel_rfl
    case g3_1 => kernel_rfl
    case g6_1 => exact (fun _ h => (HB.out _ (Below_then hlow h)).g)
    case g4_1 => kernel_rfl
    case g7_1 => assumption
    simp only [Act.put, List.getElem_toArray, List.getElem_cons_succ, List.getElem_cons_zero, List.setIfInBounds_toArray, List.set_cons_zero, List.set_cons_succ]
    refine wpAnyH_take (i := 9) (oi := _) (v := ?_) rfl (by kernel_rfl) (by kernel_rfl) (by kernel_rfl) (fun _ _ _ h => h) (Or.inl ⟨by rfl, ?_⟩) (by assumption) ?_
    rotate_left
    · intro w hSw; clear hSw; first | (go_simp; done) | (go_simp; with_reducible rfl)
    simp only [Act.put, List.getElem_toArray, List.getElem_cons_succ, List.getElem_cons_zero, List.setIfInBounds_toArray, List.set_cons_zero, List.set_cons_succ]
    refine wpAnyH_take (i := 10) (oi := _) (v := _) rfl ?g1_2 ?g2_2 ?g3_2 (fun _ _ _ h => h) (yieldsIf_load_mid ?g4_2 _ _ rfl w.heap.size ?oo_2 ?g5_2 [.int .i64 a.c2, .int .i64 a.k2, .int .i64 a.a2, .int .i64 a.t2] _ ?g6_2 Try.underlying29 rfl (by kernel_rfl)) ?g7_2 ?_
    case g5_2 => rfl
    case g1_2 => kernel_rfl
    case g2_2 => kernel_rfl
    case g3_2 => kernel_rfl
    case g6_2 => exact (fun _ h => (HB.out _ (Below_then hlow h)).r)
    case g4_2 => kernel_rfl
    case g7_2 => assumption
    simp only [Act.put, List.getElem_toArray, List.getElem_cons_succ, List.getElem_cons_zero, List.setIfInBounds_toArray, List.set_cons_zero, List.set_cons_succ]
    refine wpAnyH_ready (rs := [3]) (by kernel_rfl) (by simp) ?_
    refine AllReadyH.cons (o := _) rfl (fun K hK => ?_) AllReadyH.nil
    (try dsimp only at hHeld)
    go_simp
    refine (K1.out _).mono ?_
    rintro e wn ⟨v, rfl, hO, hbn⟩
    obtain ⟨g1, k1, rfl, hg, -⟩ := hO.pos hp1
    have hgg1 : w1.heap.size < g1 := by (have := hHeld.size; omega)
    obtain ⟨A5, k5, e5, hr⟩ := hO.form
    injection e5 with e5 _ _
    subst e5
    have hr1 := hr
    clear hr hO hg
    go_wp2_with fail
    refine hK.out _ _ (Below_then hHeld hbn) (fun hHeld => ?_)
    clear hK K hbn
    try simp only [Act.put, List.getElem_toArray, List.getElem_cons_succ, List.getElem_cons_zero, List.setIfInBounds_toArray, List.set_cons_zero, List.set_cons_succ]
    refine wpAnyH_ready (rs := [6]) (by kernel_rfl) (by simp) ?_
    refine AllReadyH.cons (o := _) rfl (fun K hK => ?_) AllReadyH.nil
    (try dsimp only at hHeld)
    go_simp
    refine (KN1.out _).mono ?_
    rintro e wn ⟨rfl, hbn⟩
    replace hr1 := hr1.below hbn
    go_wp2_with fail
    refine hK.out _ _ (Below_then hHeld hbn) (fun hHeld => ?_)
    clear hK K hbn
    try simp only [Act.put, List.getElem_toArray, List.getElem_cons_succ, List.getElem_cons_zero, List.setIfInBounds_toArray, List.set_cons_zero, List.set_cons_succ]
    refine wpAnyH_take (i := 7) (oi := _) (v := ?_) rfl (by kernel_rfl) (by kernel_rfl) (by kernel_rfl) (fun _ _ _ h => h) (Or.inl ⟨by rfl, ?_⟩) (by assumption) ?_
    rotate_left
    · intro w hSw; clear hSw; first | (go_simp; done) | (go_simp; with_reducible rfl)
    simp only [Act.put, List.getElem_toArray, List.getElem_cons_succ, List.getElem_cons_zero, List.setIfInBounds_toArray, List.set_cons_zero, List.set_cons_succ]
    refine wpAnyH_ready (rs := [8]) (by kernel_rfl) (by simp) ?_
    refine AllReadyH.cons (o := _) rfl (fun K hK => ?_) AllReadyH.nil
    (try dsimp only at hHeld)
    go_simp
    refine (K2.out _).mono ?_
    rintro e wn ⟨v, rfl, hO, hbn⟩
    obtain ⟨g2, k2, rfl, hg, -⟩ := hO.pos hp2
    have hgg2 : w1.heap.size < g2 := by (have := hHeld.size; omega)
    obtain ⟨A5, k5, e5, hr⟩ := hO.form
    injection e5 with e5 _ _
    subst e5
    replace hr1 := hr1.below hbn
    have hr2 := hr
    clear hr hO hg
    go_wp2_with fail
    refine hK.out _ _ (Below_then hHeld hbn) (fun hHeld => ?_)
    clear hK K hbn
    try simp only [Act.put, List.getElem_toArray, List.getElem_cons_succ, List.getElem_cons_zero, List.setIfInBounds_toArray, List.set_cons_zero, List.set_cons_succ]
    refine wpAnyH_ready (rs := [11]) (by kernel_rfl) (by simp) ?_
    refine AllReadyH.cons (o := _) rfl (fun K hK => ?_) AllReadyH.nil
    (try dsimp only at hHeld)
    go_simp
    refine (KN2.out _).mono ?_
    rintro e wn ⟨rfl, hbn⟩
    replace hr1 := hr1.below hbn
    replace hr2 := hr2.below hbn
    go_wp2_with fail
    refine hK.out _ _ (Below_then hHeld hbn) (fun hHeld => ?_)
    clear hK K hbn
    try simp only [Act.put, List.getElem_toArray, List.getElem_cons_succ, List.getElem_cons_zero, List.setIfInBounds_toArray, List.set_cons_zero, List.set_cons_succ]
    refine wpAnyH_take (i := 12) (oi := _) (v := ?_) rfl (by kernel_rfl) (by kernel_rfl) (by kernel_rfl) (fun _ _ _ h => h) (Or.inl ⟨by rfl, ?_⟩) (by assumption) ?_
    rotate_left
    · intro w hSw; clear hSw; first | (go_simp; done) | (go_simp; with_reducible rfl)
    simp only [Act.put, List.getElem_toArray, List.getElem_cons_succ, List.getElem_cons_zero, List.setIfInBounds_toArray, List.set_cons_zero, List.set_cons_succ]
    refine wpAnyH_ready (rs := [13]) (by kernel_rfl) (by simp) ?_
    refine AllReadyH.cons (o := _) rfl (fun K hK => ?_) AllReadyH.nil
    (try dsimp only at hHeld)
    go_simp
    refine (K3.out _).mono ?_
    rintro e wn ⟨v, rfl, hO, hbn⟩
    obtain ⟨g3, k3, rfl, hg, -⟩ := hO.pos hp3
    have hgg3 : w1.heap.size < g3 := by (have := hHeld.size; omega)
    obtain ⟨A5, k5, e5, hr⟩ := hO.form
    injection e5 with e5 _ _
    subst e5
    replace hr1 := hr1.below hbn
    replace hr2 := hr2.below hbn
    have hr3 := hr
    clear hr hO hg
    go_wp2_with fail
    refine hK.out _ _ (Below_then hHeld hbn) (fun hHeld => ?_)
    clear hK K hbn
    try simp only [Act.put, List.getElem_toArray, List.getElem_cons_succ, List.getElem_cons_zero, List.setIfInBounds_toArray, List.set_cons_zero, List.set_cons_succ]
    refine wpAnyH_take (i := 14) (oi := _) (v := ?_) rfl (by kernel_rfl) (by kernel_rfl) (by kernel_rfl) (fun _ _ _ h => h) (Or.inl ⟨by rfl, ?_⟩) (by assumption) ?_
    rotate_left
    · intro w hSw; clear hSw; first | (go_simp; done) | (go_simp; with_reducible rfl)
    simp only [Act.put, List.getElem_toArray, List.getElem_cons_succ, List.getElem_cons_zero, List.setIfInBounds_toArray, List.set_cons_zero, List.set_cons_succ]
    refine wpAnyH_take (i := 15) (oi := _) (v := ?_) rfl (by kernel_rfl) (by kernel_rfl) (by kernel_rfl) (fun _ _ _ h => h) (Or.inl ⟨by rfl, ?_⟩) (by assumption) ?_
    rotate_left
    · intro w hSw; clear hSw; first | (go_simp; done) | (go_simp; with_reducible rfl)
    simp only [Act.put, List.getElem_toArray, List.getElem_cons_succ, List.getElem_cons_zero, List.setIfInBounds_toArray, List.set_cons_zero, List.set_cons_succ]
    refine wpAnyH_take (i := 16) (oi := _) (v := ?_) rfl (by kernel_rfl) (by kernel_rfl) (by kernel_rfl) (fun _ _ _ h => h) (Or.inl ⟨by rfl, ?_⟩) (by assumption) ?_
    rotate_left
    · intro w hSw; clear hSw; first | (go_simp; done) | (go_simp; with_reducible rfl)
    simp only [Act.put, List.getElem_toArray, List.getElem_cons_succ, List.getElem_cons_zero, List.setIfInBounds_toArray, List.set_cons_zero, List.set_cons_succ]
    (try dsimp only at hHeld)
    have hT := hHeld
    refine wpAnyH_done (by kernel_rfl) ?_ _
    refine NoPanic.normal ?_
    go_wp2_with fail
    go_meet
    exact ⟨g1, g2, g3, _, _, _, rfl, rfl, rfl, hr1, hr2, hr3, hgg1, hgg2, hgg3, HT.out _ hT⟩
  case rest =>
    obtain ⟨g1, g2, g3, k1, k2, k3, rfl, rfl, rfl, hr1, hr2, hr3, hg1, hg2, hg3, hb2⟩ := hcut
    have hb3 : Below (w1.alloc (.cells (ac zA).toArray 31)).heap.size (w1.alloc (.cells (ac zA).toArray 31)) wc := by rw [World.size_alloc]; exact hb2
    have HL2 := Lib.hid (Below_then HL1.out (Below_then (Below_al (Below.refl _ _) _) hb3))
    have HR1 := Lib.hid hr1
    have HR2 := Lib.hid hr2
    have HR3 := Lib.hid hr3
    obtain ⟨D, hD⟩ : ∃ D, D = w1.heap.size := ⟨_, rfl⟩
    have hS1 := (RepSt.mk (by rw [hD]; exact heap_keepB (heap_hit _ _ _ rfl) hb3) (World.grownBy.refl _ _) : RepSt wc D (4, zA) wc)
    have hD2 : D < wc.heap.size := heap_lt hS1.best
    have hsc : T0.heap.size ≤ wc.heap.size := HL2.out.size
    rw [← hD] at hg1 hg2 hg3 hDw ⊢
    clear hr1 hr2 hr3 hb2 hb3 hD
    go_wp2_with fail
    go_loopw [6, 10] (fun l i wr => ∃ (k : Nat) (S : RS), k ≤ xs.length ∧ i = .int .i64 k ∧ l = .int .i64 (lz S) ∧ S.1 ≤ 4 ∧ S = rX a ys zs (4, zA) (xs.take k) ∧ RepSt wc D S wr) (fun _ i _ => xs.length - (intOf i).toNat)
    case atStart => exact ⟨0, (4, zA), Nat.zero_le _, rfl, rfl, Nat.le_refl 4, rfl, hS1⟩
    case round =>
      obtain ⟨k, S, hk, rfl, rfl, hS4, hSe, hst1⟩ := hrel
      have HSe := Lib.hid hSe
      clear hSe hS1
      by_cases hlt : k < xs.length
      · have i1 : (k : Int) < (xs.length : Int) := by omega
        have d1 : decide (k < xs.length) = true := by simpa using hlt
        obtain ⟨x, hxk⟩ : ∃ x, xs[k]? = some x := ⟨_, List.getElem?_eq_getElem hlt⟩
        have HX := Lib.hid hxk
        clear hxk
        go_wp2_with fail
        go_loopw [6, 11] (fun l i wr => ∃ (m : Nat) (S2 : RS), m ≤ ys.length ∧ i = .int .i64 m ∧ l = .int .i64 (lz S2) ∧ S2.1 ≤ 4 ∧ S2 = rY a x zs S (ys.take m) ∧ RepSt wc D S2 wr) (fun _ i _ => ys.length - (intOf i).toNat)
        case atStart => exact ⟨0, S, Nat.zero_le _, rfl, rfl, hS4, rfl, hst1⟩
        case round =>
          obtain ⟨m, S2, hm, rfl, rfl, hS24, hSe2, hst2⟩ := hrel
          have HSe2 := Lib.hid hSe2
          clear hSe2 hst1
          by_cases hlt2 : m < ys.length
          · have i2 : (m : Int) < (ys.length : Int) := by omega
            have d2 : decide (m < ys.length) = true := by simpa using hlt2
            obtain ⟨y, hyk⟩ : ∃ y, ys[m]? = some y := ⟨_, List.getElem?_eq_getElem hlt2⟩
            have HY := Lib.hid hyk
            clear hyk
            go_wp2_with fail
            go_loopw [6, 12] (fun l i wr => ∃ (n : Nat) (S3 : RS), n ≤ zs.length ∧ i = .int .i64 n ∧ l = .int .i64 (lz S3) ∧ S3.1 ≤ 4 ∧ S3 = rZ a x y S2 (zs.take n) ∧ RepSt wc D S3 wr) (fun _ i _ => zs.length - (intOf i).toNat)
            case atStart => exact ⟨0, S2, Nat.zero_le _, rfl, rfl, hS24, rfl, hst2⟩
            case round =>
              obtain ⟨n, S3, hn, rfl, rfl, hS34, hSe3, hst⟩ := hrel
              have HSe3 := Lib.hid hSe3
              clear hSe3 hst2
              by_cases hlt3 : n < zs.length
              · have i3 : (n : Int) < (zs.length : Int) := by omega
                have d3 : decide (n < zs.length) = true := by simpa using hlt3
                obtain ⟨z, hzk⟩ : ∃ z, zs[n]? = some z := ⟨_, List.getElem?_eq_getElem hlt3⟩
                have HZ := Lib.hid hzk
                have hfar := hst.grown.size
                have hne : D ≠ wr.heap.size := by omega
                have hlow := hst.low HL2.out hDw hsc
                have P1 := Lib.hid (show ∀ (S : RS) (w : World), RepSt wc D S w → w.cell? ⟨g1, k, none⟩ = some (.int .i64 x) from fun S w h => by
                  obtain ⟨b, off, e, hc, -⟩ := (h.rd HR1.out (by omega)).atv HX.out
                  injection e with e
                  injection e with e1 e2 _
                  subst e1 e2
                  rw [Nat.zero_add] at hc
                  exact hc)
                have P2 := Lib.hid (show ∀ (S : RS) (w : World), RepSt wc D S w → w.cell? ⟨g2, m, none⟩ = some (.int .i64 y) from fun S w h => by
                  obtain ⟨b, off, e, hc, -⟩ := (h.rd HR2.out (by omega)).atv HY.out
                  injection e with e
                  injection e with e1 e2 _
                  subst e1 e2
                  rw [Nat.zero_add] at hc
                  exact hc)
                have P3 := Lib.hid (show ∀ (S : RS) (w : World), RepSt wc D S w → w.cell? ⟨g3, n, none⟩ = some (.int .i64 z) from fun S w h => by
                  obtain ⟨b, off, e, hc, -⟩ := (h.rd HR3.out (by omega)).atv HZ.out
                  injection e with e
                  injection e with e1 e2 _
                  subst e1 e2
                  rw [Nat.zero_add] at hc
                  exact hc)
                clear hzk
                go_upto_region 15 with (first | (refine ldAw (by kernel_rfl) _ rfl w.heap.size _ rfl a (rangeAt_blk (HHa.out _ hlow)) ?_) | (refine stAw rfl _ _ rfl wr.heap.size rfl a rfl _ (heap_hit _ _ _ rfl) rfl ?_; intro w9 hg9 hw9; have hI : InSt wc D S3 wr.heap.size a w9 := ⟨(hst.below (Below_al (Below.refl _ _) _)).fresh hw9 hfar hne, hg9, hfar, hne⟩; clear hg9 hw9) | fail)
                go_upto_region 16 with (first | (refine ldIw (by kernel_rfl) _ rfl g1 k rfl x (P1.out _ _ hI.st) ?_) | (refine stI1 rfl _ _ rfl wr.heap.size 6 rfl x rfl a { a with t := x } hI.blk ((ac a).take 6) ((ac a).drop 7) (.int .i64 a.t) rfl rfl rfl ?_; intro w9 hg9 hw9; replace hI := hI.store hg9 hw9; clear hg9 hw9) | fail)
                go_upto_region 17 with (first | (refine ldIw (by kernel_rfl) _ rfl g2 m rfl y (P2.out _ _ hI.st) ?_) | (refine stI1 rfl _ _ rfl wr.heap.size 10 rfl y rfl { a with t := x } { a with t := x, t1 := y } hI.blk ((ac { a with t := x }).take 10) ((ac a).drop 11) (.int .i64 a.t1) rfl rfl rfl ?_; intro w9 hg9 hw9; replace hI := hI.store hg9 hw9; clear hg9 hw9) | fail)
                go_upto_region 19 with (first | (refine ldIw (by kernel_rfl) _ rfl g3 n rfl z (P3.out _ _ hI.st) ?_) | (refine stI1 rfl _ _ rfl wr.heap.size 14 rfl z rfl { a with t := x, t1 := y } (tri a x y z) hI.blk ((ac { a with t := x, t1 := y }).take 14) ([]) (.int .i64 a.t2) rfl rfl rfl ?_; intro w9 hg9 hw9; replace hI := hI.store hg9 hw9; clear hg9 hw9) | fail)
                have hlow9 := hI.st.low HL2.out hDw hsc
                clear hlow hst
                go_upto_if 74 with (first | (refine ldIw (by kernel_rfl) _ rfl wr.heap.size 6 rfl x (cell_of hI.blk 6) ?_) | (refine ldIw (by kernel_rfl) _ rfl w.heap.size 6 rfl a.t ((HB.out _ hlow9).cell 6 _ rfl) ?_) | fail)
                try simp only [Act.put, List.getElem_toArray, List.getElem_cons_succ, List.getElem_cons_zero, List.setIfInBounds_toArray, List.set_cons_zero, List.set_cons_succ]
                generalize hb1 : (x != a.t) = b1
                have Hb1 := Lib.hid hb1
                have n1 := numI_bd b1
                clear hb1
                go_cut [14] (fun v wx => v = .int .i64 (numI b1) ∧ w9 = wx)
                case first =>
                  cases b1
                  · go_wp2_with fail
                    go_meet
                    exact ⟨by simp [numI], rfl⟩
                  · go_wp2_with fail
                    go_meet
                    exact ⟨by first | (simp [numI]; done) | (rw [IntWalk.i64_in _ ⟨by omega, by omega⟩]; simp [numI]), rfl⟩
                case rest =>
                obtain ⟨rfl, rfl⟩ := hcut
                go_upto_if 83 with (first | (refine ldIw (by kernel_rfl) _ rfl wr.heap.size 10 rfl y (cell_of hI.blk 10) ?_) | (refine ldIw (by kernel_rfl) _ rfl w.heap.size 10 rfl a.t1 ((HB.out _ hlow9).cell 10 _ rfl) ?_) | fail)
                try simp only [Act.put, List.getElem_toArray, List.getElem_cons_succ, List.getElem_cons_zero, List.setIfInBounds_toArray, List.set_cons_zero, List.set_cons_succ]
                generalize hb2 : (y != a.t1) = b2
                have Hb2 := Lib.hid hb2
                have n2 := numI_bd b2
                clear hb2
                go_cut [14] (fun v wx => v = .int .i64 (numI b1 + numI b2) ∧ w9 = wx)
                case first =>
                  cases b2
                  · go_wp2_with fail
                    go_meet
                    exact ⟨by simp [numI], rfl⟩
                  · go_wp2_with fail
                    go_meet
                    exact ⟨by first | (simp [numI]; done) | (rw [IntWalk.i64_in _ ⟨by omega, by omega⟩]; simp [numI]), rfl⟩
                case rest =>
                obtain ⟨rfl, rfl⟩ := hcut
                go_upto_if 92 with (first | (refine ldIw (by kernel_rfl) _ rfl wr.heap.size 14 rfl z (cell_of hI.blk 14) ?_) | (refine ldIw (by kernel_rfl) _ rfl w.heap.size 14 rfl a.t2 ((HB.out _ hlow9).cell 14 _ rfl) ?_) | fail)
                try simp only [Act.put, List.getElem_toArray, List.getElem_cons_succ, List.getElem_cons_zero, List.setIfInBounds_toArray, List.set_cons_zero, List.set_cons_succ]
                generalize hb3 : (z != a.t2) = b3
                have Hb3 := Lib.hid hb3
                have n3 := numI_bd b3
                clear hb3
                go_cut [14] (fun v wx => v = .int .i64 (numI b1 + numI b2 + numI b3) ∧ w9 = wx)
                case first =>
                  cases b3
                  · go_wp2_with fail
                    go_meet
                    exact ⟨by simp [numI], rfl⟩
                  · go_wp2_with fail
                    go_meet
                    exact ⟨by first | (simp [numI]; done) | (rw [IntWalk.i64_in _ ⟨by omega, by omega⟩]; simp [numI]), rfl⟩
                case rest =>
                obtain ⟨rfl, rfl⟩ := hcut
                obtain ⟨c, hcN⟩ : ∃ c, c = chN a x y z := ⟨_, rfl⟩
                have hc3 : c ≤ 3 := hcN ▸ chN_le a x y z
                have e9 : numI b1 + numI b2 + numI b3 = (c : Int) := by rw [← Hb1.out, ← Hb2.out, ← Hb3.out, hcN]; exact chN_num a x y z
                rw [e9]
                have HN := Lib.hid hcN
                clear hcN e9 n1 n2 n3 Hb1 Hb2 Hb3 hlow9
                have HStep := Lib.hid (show rZ a x y S2 (zs.take (n + 1)) = stR a x y S3 z from by rw [HSe3.out]; exact foldl_take _ _ _ HZ.out)
                have hlz := lz_lt hS34 hc3
                by_cases h4 : c < S3.1
                · rw [show decide (c < S3.1) = true from by simpa using h4] at hlz
                  have K5 := Lib.hid (fun w => l8Findings_any (tri a x y z) w)
                  have hor : decide (lz S3 < 0) = true ∨ (decide (lz S3 < 0) = false ∧ decide ((c : Int) < lz S3) = true) := by
                    cases h5 : decide (lz S3 < 0)
                    · rw [h5, Bool.false_or] at hlz
                      exact .inr ⟨rfl, hlz⟩
                    · exact .inl rfl
                  clear hlz
                  rcases hor with d4 | ⟨d4, d4'⟩
                  all_goals
                    go_wp2_with (first | (refine ldAw (by kernel_rfl) _ rfl wr.heap.size _ rfl (tri a x y z) (rangeAt_blk hI.blk) ?_) | fail)
                    refine (K5.out _).mono ?_
                    rintro e w11 ⟨A, q, c9, rfl, hq, hb11⟩
                    have hI := hI.below hb11
                    clear hb11
                    cases hok : okR (tri a x y z)
                    · rw [hok] at hq
                      have d5 : ((q : Int) == 0) = false := by
                        have : q ≠ 0 := by simpa using hq
                        simpa using this
                      have HQ := Lib.hid (show S3 = rZ a x y S2 (zs.take (n + 1)) from by rw [HStep.out, stR, if_neg (by rw [hok]; simp)])
                      clear hq hok
                      go_wp2_with fail
                      go_roundw
                      case rel => exact ⟨n + 1, S3, by omega, by go_num, rfl, hS34, HQ.out, hI.st⟩
                      case measure => simp [intOf]; omega
                    · rw [hok] at hq
                      obtain rfl : q = 0 := by simpa using hq
                      have HQ := Lib.hid (show ((c, tri a x y z) : RS) = rZ a x y S2 (zs.take (n + 1)) from by rw [HStep.out, stR, if_pos ⟨by rw [← HN.out]; exact h4, hok⟩, ← HN.out])
                      clear hq hok
                      go_wp2_with (first | (refine ldAw (by kernel_rfl) _ rfl wr.heap.size _ rfl (tri a x y z) (rangeAt_blk hI.blk) ?_) | (refine stAw rfl _ _ rfl D rfl (tri a x y z) rfl _ hI.st.best (by simp [ac_len]) ?_; intro w12 hbest hgr12; have hst4 : RepSt wc D (c, tri a x y z) w12 := ⟨hbest, grownBy_trans hI.st.grown hgr12⟩; clear hbest hgr12) | fail)
                      go_roundw
                      case rel => exact ⟨n + 1, (c, tri a x y z), by omega, by go_num, congrArg (Value.int .i64) (lz_c hc3), (by show c ≤ 4; omega), HQ.out, hst4⟩
                      case measure => simp [intOf]; omega
                · rw [show decide (c < S3.1) = false from by simpa using h4] at hlz
                  have d4 : decide (lz S3 < 0) = false := by
                    cases h5 : decide (lz S3 < 0)
                    · rfl
                    · rw [h5] at hlz; simp at hlz
                  have d4' : decide ((c : Int) < lz S3) = false := by rw [d4] at hlz; simpa using hlz
                  have HQ := Lib.hid (show S3 = rZ a x y S2 (zs.take (n + 1)) from by rw [HStep.out, stR, if_neg (by rw [← HN.out]; exact fun h => h4 h.1)])
                  clear hlz
                  go_wp2_with fail
                  go_roundw
                  case rel => exact ⟨n + 1, S3, by omega, by go_num, rfl, hS34, HQ.out, hI.st⟩
                  case measure => simp [intOf]; omega
              · obtain rfl : n = zs.length := by omega
                have d3 : decide (zs.length < zs.length) = false := by simp
                have HQ := Lib.hid (show S3 = rY a x zs S (ys.take (m + 1)) from by
                  rw [HSe3.out, List.take_length, HSe2.out]
                  exact (show rY a x zs S (ys.take (m + 1)) = rZ a x y (rY a x zs S (ys.take m)) zs from foldl_take _ _ _ HY.out).symm)
                go_wp2_with fail
                go_roundw
                case rel => exact ⟨m + 1, S3, by omega, by go_num, rfl, hS34, HQ.out, hst⟩
                case measure => simp [intOf]; omega
          · obtain rfl : m = ys.length := by omega
            have d2 : decide (ys.length < ys.length) = false := by simp
            have HQ := Lib.hid (show S2 = rX a ys zs (4, zA) (xs.take (k + 1)) from by
              rw [HSe2.out, List.take_length, HSe.out]
              exact (show rX a ys zs (4, zA) (xs.take (k + 1)) = rY a x zs (rX a ys zs (4, zA) (xs.take k)) ys from foldl_take _ _ _ HX.out).symm)
            go_wp2_with fail
            go_roundw
            case rel => exact ⟨k + 1, S2, by omega, by go_num, rfl, hS24, HQ.out, hst2⟩
            case measure => simp [intOf]; omega
      · obtain rfl : k = xs.length := by omega
        have d1 : decide (xs.length < xs.length) = false := by simp
        have HS := Lib.hid (show finR a = S from by rw [HFin.out, HSe.out, List.take_length])
        have hlow := hst1.low HL2.out hDw hsc
        have hz := HHz.out _ hlow
        have hTw := Below_then HTw.out hlow
        by_cases h4 : S.1 = 4
        · have e4 : lz S = -1 := by unfold lz; rw [if_pos h4]
          have HO := Lib.hid (show repOk a = false from by unfold repOk; rw [HS.out, h4]; simp)
          rw [e4]
          clear h4 e4
          go_wp2_with (first | (refine stAw rfl _ _ rfl (w.heap.size + 1) rfl zA rfl _ hz (by simp [ac_len]) ?_; intro w12 hres hgr12) | fail)
          exact bodyPost_ret (v := .tuple #[.agg (ac zA).toArray, .int .i64 0, .bool false]) (by simp [results, Try.results5, go_sem, World.cell?, hres, ac, zA]) rfl ⟨by unfold repA repN; rw [HO.out]; rfl, hTw.grown hgr12 hTw.size (by intro k e; injection e with e; omega)⟩
        · have e4 : lz S = (S.1 : Int) := by unfold lz; rw [if_neg h4]
          have d4 : decide ((S.1 : Int) < 0) = false := by simp
          have HO := Lib.hid (show repOk a = true from by unfold repOk; rw [HS.out, ga]; simp; omega)
          rw [e4]
          clear h4 e4
          go_wp2_with (first | (refine ldAw (by kernel_rfl) _ rfl D _ rfl S.2 (rangeAt_blk hst1.best) ?_) | (refine stAw rfl _ _ rfl (w.heap.size + 1) rfl S.2 rfl _ hz (by simp [ac_len]) ?_; intro w12 hres hgr12) | fail)
          exact bodyPost_ret (v := .tuple #[.agg (ac S.2).toArray, .int .i64 (S.1 : Nat), .bool true]) (by simp [results, Try.results5, go_sem, World.cell?, hres, ac, zA]) rfl ⟨by unfold repA repN; rw [HO.out, HS.out]; rfl, hTw.grown hgr12 hTw.size (by intro k e; injection e with e; omega)⟩
set_option maxHeartbeats 4000000 in
theorem specRepair_no (a : ArmsD) (ga : armsOk a = false) (w : World) : Calls Try.prog 5 #[.agg (ac a).toArray] w (RepIs w a) := by
  have KV := fun w => l5GoodC a w
  rw [ga] at KV
  have KV' := Lib.hid KV
  obtain ⟨T0, hT0⟩ : ∃ T0, T0 = (w.alloc (.cells (ac a).toArray 31)).alloc (.cells (ac zA).toArray 31) := ⟨_, rfl⟩
  have hsz : T0.heap.size = w.heap.size + 2 := by rw [hT0]; simp
  have HHz := Lib.hid (show ∀ w', Below T0.heap.size T0 w' → w'.heap[w.heap.size + 1]? = some (.cells (ac zA).toArray 31 (0, 0)) from fun w' hb => heap_keepB (by rw [hT0]; exact heap_hit _ _ _ (by simp)) hb)
  have HTw := Lib.hid (show Below w.heap.size w T0 from by rw [hT0]; (repeat (first | exact Below.refl _ _ | assumption | refine Below_al ?_ _ | refine Below.drew ?_ | refine Below_then ?_ (by assumption) | refine Below.setCell ?_ (by first | omega | (simp; done) | (simp; omega)) _)))
  have HO := Lib.hid (show repOk a = false from by unfold repOk; rw [ga]; rfl)
  clear KV
  go_enter Try.func5, Try.ntmps5
  go_wp2_with (first | (refine ldAw (by kernel_rfl) _ rfl w.heap.size _ rfl a (rangeAt_blk (heap_keepB (heap_hit _ _ _ rfl) (Below_al (Below.refl _ _) _))) ?_) | fail)
  refine (KV'.out _).mono ?_
  rintro e w1 ⟨rfl, hb1⟩
  have hlow : Below T0.heap.size T0 w1 := by rw [hT0]; exact hb1
  have hz := HHz.out _ hlow
  have hTw := Below_then HTw.out hlow
  clear hb1 hT0
  go_wp2_with (first | (refine stAw rfl _ _ rfl (w.heap.size + 1) rfl zA rfl _ hz (by simp [ac_len]) ?_; intro w12 hres hgr12) | fail)
  exact bodyPost_ret (v := .tuple #[.agg (ac zA).toArray, .int .i64 0, .bool false]) (by simp [results, Try.results5, go_sem, World.cell?, hres, ac, zA]) rfl ⟨by unfold repA repN; rw [HO.out]; rfl, hTw.grown hgr12 hTw.size (by intro k e; injection e with e; omega)⟩
theorem specRepair_any (a : ArmsD) (w : World) : Calls Try.prog 5 #[.agg (ac a).toArray] w (RepIs w a) := by
  cases ga : armsOk a
  · exact specRepair_no a ga w
  · exact specRepair_yes a ga w
end Go.Proofs.Ytjodoljgpdbimaa
