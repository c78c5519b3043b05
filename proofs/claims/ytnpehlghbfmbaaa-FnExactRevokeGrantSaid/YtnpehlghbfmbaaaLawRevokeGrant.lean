/- FnExactRevokeGrant: for all arguments RevokeGrant of the program returns what RevokeGrant of the reference returns. No condition. -/
import Derived.Test.YtnpehlghbfmbaaaRows
import Derived.Test.YtnpehlghbfmbaaaGrOpen
import Derived.Test.YtnpehlghbfmbaaaRev2
namespace Go.Proofs.Ytnpehlghbfmbaaa.fnExactRevokeGrant
open Go.ChangeShapes Go.WideShapes Go.ChangeAt Go.RowKit
set_option linter.unusedVariables false
set_option linter.unusedSimpArgs false
theorem grd {w : World} {B n c : Nat} {A : Option Addr} {rows : List GrantD} (h : OwnGr w B (.slice A n c) rows) : RdR 18 w A (gcs rows) := by
  obtain ⟨A', c', e, hr, -⟩ := h.form
  injection e with e1 _ _
  subst e1
  exact hr
theorem ownApart {v v' : Value} {a b c d : Nat} (h : ∀ k, v.ownBlock = some k → a ≤ k ∧ k < b) (h' : ∀ k, v'.ownBlock = some k → c ≤ k ∧ k < d) (hh : b ≤ c ∨ d ≤ a) : v.ownBlock = none ∨ v.ownBlock ≠ v'.ownBlock := by
  cases e : v.ownBlock with
  | none => exact .inl rfl
  | some k =>
    refine .inr fun e' => ?_
    have h1 := h k e
    have h2 := h' k e'.symm
    omega
set_option maxHeartbeats 16000000 in
set_option maxRecDepth 20000 in
theorem walk (w : World) (A0 : Option Addr) (c0 : Nat) (z0 : List GrantD) (u0 : RdR 18 w A0 (gcs z0)) (l0 : z0.length ≤ maxLen) (s0 : ∀ g ∈ z0, g.s.size ≤ maxLen) (n : Int) (wn : (Lit.int .i64 n).wf = true) :
    Calls Try.prog 4 #[.agg #[.slice A0 z0.length c0], .int .i64 n] w fun e w' => e = .returned (.bool true) ∧ Below w.heap.size w w' := by
  clear wn
  go_enter Try.func4, Try.ntmps4
  have hT := Below.refl w.heap.size w
  replace hT := Below_al hT (.cells #[.slice A0 z0.length c0] 24)
  have hF := heap_hit w (.cells #[.slice A0 z0.length c0] 24 (0, 0)) _ rfl
  have khF0 := cell_of hF 0
  go_wp2_with fail
  clear khF0
  refine (szRegister_any A0 c0 z0 1048576 _ (u0.below hT) (by omega) (by omega) l0 s0).mono ?_
  rintro e y0 ⟨y, rfl, hy, hx⟩
  have z00 := hx.size
  try simp only [World.size_alloc, World.size_drew] at z00
  replace hT := Below_then hT hx
  replace hF := heap_keepB hF hx
  clear hx
  rcases hy with rfl | ⟨q0, q1, q2⟩
  · go_wp2
    go_ret
    exact ⟨rfl, hT⟩
  have HS := Lib.hid q2
  have hyn : ¬ y < 0 := by omega
  obtain ⟨zr, ok, hzl, KS, KI⟩ : ∃ (zr : List GrantD) (ok : Bool), zr.length ≤ 1048576 ∧ (∀ (g : Nat) (w : World), RdR 18 w (some ⟨g, 0, none⟩) (gcs z0) → Calls Try.prog 14 #[.agg #[.slice (some ⟨g, 0, none⟩) z0.length z0.length], .int .i64 n] w (RgOk w zr ok)) ∧ (∀ (g : Nat) (w : World), RdR 18 w (some ⟨g, 0, none⟩) (gcs z0) → Calls Try.prog 15 #[.agg #[.slice (some ⟨g, 0, none⟩) z0.length z0.length], .int .i64 n] w (RgOk w zr ok)) := ⟨_, _, Nat.le_trans (rvRows_len z0 n) HS.out, fun g w h => specRevokeGrant_any _ z0.length z0 n w h HS.out s0 (Nat.le_refl _) l0, fun g w h => implRevokeGrant_any _ z0.length z0 n w h HS.out s0 (Nat.le_refl _) l0⟩
  have KS' := Lib.hid KS
  have KI' := Lib.hid KI
  have hM : ¬ (1 + 18 * (zr.length : Int) < 0) := by omega
  have hM2 : ¬ (1 + 18 * (z0.length : Int) < 0) := by omega
  have hzl2 : z0.length ≤ 1048576 := q2
  clear KS KI l0 s0 q0 q1 q2
  cases ok
  all_goals
    have khF0 := cell_of hF 0
    go_wp2_with fail
    clear khF0
    refine (toRegister_any A0 c0 z0 _ (u0.below hT) HS.out).mono ?_
    rintro e y1 ⟨g1, rfl, ho1, hx⟩
    have z1 := hx.size
    try simp only [World.size_alloc, World.size_drew] at z1
    replace hT := Below_then hT hx
    replace hF := heap_keepB hF hx
    clear hx
    go_wp2_with fail
    refine (KS'.out _ _ ho1.rd).mono ?_
    rintro e y2 ⟨vW, rfl, oW, hx⟩
    have z2 := hx.size
    try simp only [World.size_alloc, World.size_drew] at z2
    replace hT := Below_then hT hx
    replace hF := heap_keepB hF hx
    clear hx
    clear ho1
    obtain ⟨AW, cW, rfl, -⟩ := oW.form
    have LW := oW.lt
    try simp only [World.size_alloc, World.size_drew] at LW
    replace LW := Lib.hid LW
    replace hT := Below_al hT (.cells #[.slice AW zr.length cW] 34 (0, 0))
    replace hF := heap_keepA hF (.cells #[.slice AW zr.length cW] 34 (0, 0))
    replace oW := oW.below (Below_al (Below.refl _ _) (.cells #[.slice AW zr.length cW] 34 (0, 0)))
    have BW : (y2.alloc (.cells #[.slice AW zr.length cW] 34 (0, 0))).heap[y2.heap.size]? = some (.cells #[.slice AW zr.length cW] 34 (0, 0)) := heap_hit _ _ _ rfl
    have khF0 := cell_of hF 0
    go_wp2_with fail
    clear khF0
    refine (toRegister_any A0 c0 z0 _ (u0.below hT) HS.out).mono ?_
    rintro e y3 ⟨g2, rfl, hoX, hx⟩
    have z3 := hx.size
    try simp only [World.size_alloc, World.size_drew] at z3
    replace hT := Below_then hT hx
    replace hF := heap_keepB hF hx
    replace oW := oW.below hx
    replace BW := heap_keepB BW hx
    clear hx
    have oX := OwnGr.ofR hoX HS.out
    have LX := oX.lt
    try simp only [World.size_alloc, World.size_drew] at LX
    replace LX := Lib.hid LX
    clear hoX
    replace hT := Below_al hT (.cells #[.slice (some ⟨g2, 0, none⟩) z0.length z0.length] 34 (0, 0))
    replace hF := heap_keepA hF (.cells #[.slice (some ⟨g2, 0, none⟩) z0.length z0.length] 34 (0, 0))
    replace oW := oW.below (Below_al (Below.refl _ _) (.cells #[.slice (some ⟨g2, 0, none⟩) z0.length z0.length] 34 (0, 0)))
    replace BW := heap_keepA BW (.cells #[.slice (some ⟨g2, 0, none⟩) z0.length z0.length] 34 (0, 0))
    replace oX := oX.below (Below_al (Below.refl _ _) (.cells #[.slice (some ⟨g2, 0, none⟩) z0.length z0.length] 34 (0, 0)))
    have BX : (y3.alloc (.cells #[.slice (some ⟨g2, 0, none⟩) z0.length z0.length] 34 (0, 0))).heap[y3.heap.size]? = some (.cells #[.slice (some ⟨g2, 0, none⟩) z0.length z0.length] 34 (0, 0)) := heap_hit _ _ _ rfl
    have kBX0 := cell_of BX 0
    go_wp2_with fail
    clear kBX0
    refine (KI'.out _ _ (grd oX)).mono ?_
    rintro e y4 ⟨vG, rfl, oG, hx⟩
    have z4 := hx.size
    try simp only [World.size_alloc, World.size_drew] at z4
    replace hT := Below_then hT hx
    replace hF := heap_keepB hF hx
    replace oW := oW.below hx
    replace BW := heap_keepB BW hx
    replace oX := oX.below hx
    replace BX := heap_keepB BX hx
    clear hx
    obtain ⟨AG, cG, rfl, -⟩ := oG.form
    have LG := oG.lt
    try simp only [World.size_alloc, World.size_drew] at LG
    replace LG := Lib.hid LG
    replace hT := Below_al hT (.cells #[.slice AG zr.length cG] 34 (0, 0))
    replace hF := heap_keepA hF (.cells #[.slice AG zr.length cG] 34 (0, 0))
    replace oW := oW.below (Below_al (Below.refl _ _) (.cells #[.slice AG zr.length cG] 34 (0, 0)))
    replace BW := heap_keepA BW (.cells #[.slice AG zr.length cG] 34 (0, 0))
    replace oX := oX.below (Below_al (Below.refl _ _) (.cells #[.slice AG zr.length cG] 34 (0, 0)))
    replace BX := heap_keepA BX (.cells #[.slice AG zr.length cG] 34 (0, 0))
    replace oG := oG.below (Below_al (Below.refl _ _) (.cells #[.slice AG zr.length cG] 34 (0, 0)))
    have BG : (y4.alloc (.cells #[.slice AG zr.length cG] 34 (0, 0))).heap[y4.heap.size]? = some (.cells #[.slice AG zr.length cG] 34 (0, 0)) := heap_hit _ _ _ rfl
    have kBG0 := cell_of BG 0
    have kBW0 := cell_of BW 0
    go_wp2_with fail
    clear kBG0 kBW0
    refine (eqRegister_same _ _ _ _ zr _ (grd oG) (grd oW) (by omega)).mono ?_
    rintro e y5 ⟨rfl, hx⟩
    have z5 := hx.size
    try simp only [World.size_alloc, World.size_drew] at z5
    replace hT := Below_then hT hx
    replace hF := heap_keepB hF hx
    replace oW := oW.below hx
    replace BW := heap_keepB BW hx
    replace oX := oX.below hx
    replace BX := heap_keepB BX hx
    replace oG := oG.below hx
    replace BG := heap_keepB BG hx
    clear hx
    go_wp2_with fail
    have kBX0 := cell_of BX 0
    have khF0 := cell_of hF 0
    refine wp_region_noPanic ?_
    refine wp_region_held_drew (S := (fun w' => w'.cell? ⟨y3.heap.size, 0, none⟩ = some (.slice (some ⟨g2, 0, none⟩) z0.length z0.length : Value) ∧ w'.cell? ⟨w.heap.size, 0, none⟩ = some (.slice A0 z0.length c0 : Value) ∧ Below y5.heap.size y5 w')) (by kernel_rfl) ⟨kBX0, khF0, (Below.refl _ _).drew⟩ (fun hHeld => ?_)
    refine wpAnyH_take (i := 0) (oi := _) (v := ?_) rfl (by kernel_rfl) (by kernel_rfl) (by kernel_rfl) (fun _ _ _ h => h) (Or.inl ⟨by rfl, ?_⟩) (by assumption) ?_
    rotate_left
    · intro w hSw; (try dsimp only at hSw); first | (go_simp; done) | (go_simp; with_reducible rfl)
    simp only [Act.put, List.getElem_toArray, List.getElem_cons_succ, List.getElem_cons_zero, List.setIfInBounds_toArray, List.set_cons_zero, List.set_cons_succ]
    refine wpAnyH_take (i := 1) (oi := _) (v := ?_) rfl (by kernel_rfl) (by kernel_rfl) (by kernel_rfl) (fun _ _ _ h => h) (Or.inl ⟨by rfl, ?_⟩) (by assumption) ?_
    rotate_left
    · intro w hSw; (try dsimp only at hSw); first | (go_simp; done) | (go_simp; with_reducible rfl)
    simp only [Act.put, List.getElem_toArray, List.getElem_cons_succ, List.getElem_cons_zero, List.setIfInBounds_toArray, List.set_cons_zero, List.set_cons_succ]
    refine wpAnyH_ready (rs := [2]) (by kernel_rfl) (by simp) ?_
    refine AllReadyH.cons (o := _) rfl (fun K hK => ?_) AllReadyH.nil
    go_simp
    refine (toRegister_any A0 c0 z0 _ (u0.below (Below_then hT hHeld.2.2)) HS.out).mono ?_
    rintro e v1 ⟨vg, rfl, vo, vh1⟩
    go_wp2_with fail
    refine hK.out _ _ ⟨keep_cell hHeld.1 vh1, keep_cell hHeld.2.1 vh1, Below_then hHeld.2.2 vh1⟩ (fun hHeld => ?_)
    clear hK K
    try simp only [Act.put, List.getElem_toArray, List.getElem_cons_succ, List.getElem_cons_zero, List.setIfInBounds_toArray, List.set_cons_zero, List.set_cons_succ]
    refine wpAnyH_ready (rs := [3]) (by kernel_rfl) (by simp) ?_
    refine AllReadyH.cons (o := _) rfl (fun K hK => ?_) AllReadyH.nil
    go_simp
    refine (eqRegister_same _ _ _ _ z0 _ ((grd oX).below hHeld.2.2) vo.rd HS.out).mono ?_
    rintro e v2 ⟨rfl, vh2⟩
    go_wp2_with fail
    refine hK.out _ _ ⟨keep_cell hHeld.1 vh2, keep_cell hHeld.2.1 vh2, Below_then hHeld.2.2 vh2⟩ (fun hHeld => ?_)
    clear hK K
    try simp only [Act.put, List.getElem_toArray, List.getElem_cons_succ, List.getElem_cons_zero, List.setIfInBounds_toArray, List.set_cons_zero, List.set_cons_succ]
    refine wpAnyH_take (i := 4) (oi := _) (v := ?_) rfl (by kernel_rfl) (by kernel_rfl) (by kernel_rfl) (fun _ _ _ h => h) (Or.inl ⟨by rfl, ?_⟩) (by assumption) ?_
    rotate_left
    · intro w hSw; clear hSw; first | (go_simp; done) | (go_simp; with_reducible rfl)
    simp only [Act.put, List.getElem_toArray, List.getElem_cons_succ, List.getElem_cons_zero, List.setIfInBounds_toArray, List.set_cons_zero, List.set_cons_succ]
    refine wpAnyH_done (by kernel_rfl) ?_ _
    refine NoPanic.normal ?_
    clear kBX0 khF0
    have hx := hHeld.2.2
    have zv := hx.size
    try simp only [World.size_alloc, World.size_drew] at zv
    replace hT := Below_then hT hx
    replace hF := heap_keepB hF hx
    replace oW := oW.below hx
    replace BW := heap_keepB BW hx
    replace oX := oX.below hx
    replace BX := heap_keepB BX hx
    replace oG := oG.below hx
    replace BG := heap_keepB BG hx
    clear hHeld hx vh1 vh2 vo
    have kBX0 := cell_of BX 0
    go_wp2_with fail
    clear kBX0
    refine (markRegister_own _ _ z0 1 _ oX (by omega) (by omega) (by omega)).mono ?_
    rintro e y6 ⟨rfl, hm, hg⟩
    have z6 := hg.size
    try simp only [World.size_alloc, World.size_drew] at z6
    replace hT := hT.grown hg hT.size (fun b hb => by have := LX.out b hb; omega)
    replace hF := heap_keepG hF hg (fun e => by have := LX.out _ e; omega)
    replace oW := oW.other hg (ownApart LW.out LX.out (by omega))
    replace BW := heap_keepG BW hg (fun e => by have := LX.out _ e; omega)
    replace BX := heap_keepG BX hg (fun e => by have := LX.out _ e; omega)
    replace oG := oG.other hg (ownApart LG.out LX.out (by omega))
    replace BG := heap_keepG BG hg (fun e => by have := LX.out _ e; omega)
    replace oX := hm
    clear hm hg
    have kBG0 := cell_of BG 0
    have kBW0 := cell_of BW 0
    go_wp2_with fail
    clear kBG0 kBW0
    refine (eqRegister_same _ _ _ _ zr _ (grd oG) (grd oW) (by omega)).mono ?_
    rintro e y7 ⟨rfl, hx⟩
    have z7 := hx.size
    try simp only [World.size_alloc, World.size_drew] at z7
    replace hT := Below_then hT hx
    replace hF := heap_keepB hF hx
    replace oW := oW.below hx
    replace BW := heap_keepB BW hx
    replace oX := oX.below hx
    replace BX := heap_keepB BX hx
    replace oG := oG.below hx
    replace BG := heap_keepB BG hx
    clear hx
    have hX9 := oX
    clear hX9
    clear oX BX
    have kBG0 := cell_of BG 0
    go_wp2_with fail
    clear kBG0
    refine (markRegister_own _ _ zr 1 _ oG (by omega) (by omega) (by omega)).mono ?_
    rintro e y8 ⟨rfl, hm, hg⟩
    have z8 := hg.size
    try simp only [World.size_alloc, World.size_drew] at z8
    replace hT := hT.grown hg hT.size (fun b hb => by have := LG.out b hb; omega)
    replace hF := heap_keepG hF hg (fun e => by have := LG.out _ e; omega)
    replace oW := oW.other hg (ownApart LW.out LG.out (by omega))
    replace BW := heap_keepG BW hg (fun e => by have := LG.out _ e; omega)
    replace BG := heap_keepG BG hg (fun e => by have := LG.out _ e; omega)
    replace oG := hm
    clear hm hg
    have kBG0 := cell_of BG 0
    go_wp2_with fail
    clear kBG0
    refine (heldRegister_marks _ _ zr.length 1 _ oG (by omega) (by omega) (by omega)).mono ?_
    rintro e y9 ⟨rfl, hx⟩
    have z9 := hx.size
    try simp only [World.size_alloc, World.size_drew] at z9
    replace hT := Below_then hT hx
    replace hF := heap_keepB hF hx
    replace oW := oW.below hx
    replace BW := heap_keepB BW hx
    replace oG := oG.below hx
    replace BG := heap_keepB BG hx
    clear hx
    have khF0 := cell_of hF 0
    go_wp2_with fail
    clear khF0
    refine (toRegister_any A0 c0 z0 _ (u0.below hT) HS.out).mono ?_
    rintro e y10 ⟨g3, rfl, ho3, hx⟩
    have z10 := hx.size
    try simp only [World.size_alloc, World.size_drew] at z10
    replace hT := Below_then hT hx
    replace hF := heap_keepB hF hx
    replace oW := oW.below hx
    replace BW := heap_keepB BW hx
    replace oG := oG.below hx
    replace BG := heap_keepB BG hx
    clear hx
    go_wp2_with fail
    refine (KI'.out _ _ ho3.rd).mono ?_
    rintro e y11 ⟨vH, rfl, oH, hx⟩
    have z11 := hx.size
    try simp only [World.size_alloc, World.size_drew] at z11
    replace hT := Below_then hT hx
    replace hF := heap_keepB hF hx
    replace oW := oW.below hx
    replace BW := heap_keepB BW hx
    replace oG := oG.below hx
    replace BG := heap_keepB BG hx
    clear hx
    clear ho3
    obtain ⟨AH, cH, rfl, -⟩ := oH.form
    replace hT := Below_al hT (.cells #[.slice AH zr.length cH] 34 (0, 0))
    replace hF := heap_keepA hF (.cells #[.slice AH zr.length cH] 34 (0, 0))
    replace oW := oW.below (Below_al (Below.refl _ _) (.cells #[.slice AH zr.length cH] 34 (0, 0)))
    replace BW := heap_keepA BW (.cells #[.slice AH zr.length cH] 34 (0, 0))
    replace oG := oG.below (Below_al (Below.refl _ _) (.cells #[.slice AH zr.length cH] 34 (0, 0)))
    replace BG := heap_keepA BG (.cells #[.slice AH zr.length cH] 34 (0, 0))
    replace oH := oH.below (Below_al (Below.refl _ _) (.cells #[.slice AH zr.length cH] 34 (0, 0)))
    have BH : (y11.alloc (.cells #[.slice AH zr.length cH] 34 (0, 0))).heap[y11.heap.size]? = some (.cells #[.slice AH zr.length cH] 34 (0, 0)) := heap_hit _ _ _ rfl
    have kBH0 := cell_of BH 0
    have kBW0 := cell_of BW 0
    go_wp2_with fail
    clear kBH0 kBW0
    refine (eqRegister_same _ _ _ _ zr _ (grd oH) (grd oW) (by omega)).mono ?_
    rintro e y12 ⟨rfl, hx⟩
    have z12 := hx.size
    try simp only [World.size_alloc, World.size_drew] at z12
    replace hT := Below_then hT hx
    replace hF := heap_keepB hF hx
    replace oW := oW.below hx
    replace BW := heap_keepB BW hx
    replace oG := oG.below hx
    replace BG := heap_keepB BG hx
    replace oH := oH.below hx
    replace BH := heap_keepB BH hx
    clear hx
    have kBG0 := cell_of BG 0
    go_wp2_with fail
    clear kBG0
    refine (heldRegister_marks _ _ zr.length 1 _ oG (by omega) (by omega) (by omega)).mono ?_
    rintro e y13 ⟨rfl, hx⟩
    have z13 := hx.size
    try simp only [World.size_alloc, World.size_drew] at z13
    replace hT := Below_then hT hx
    replace hF := heap_keepB hF hx
    replace oW := oW.below hx
    replace BW := heap_keepB BW hx
    replace oG := oG.below hx
    replace BG := heap_keepB BG hx
    replace oH := oH.below hx
    replace BH := heap_keepB BH hx
    clear hx
    go_wp2
    go_ret
    exact ⟨rfl, hT⟩

/-! ### The row's step: written by a program of mine (frame.py) after the kit's shell -/
theorem laidOut : laidOutB Try.prog = true := by kernel_rfl
set_option maxRecDepth 100000 in
theorem lifted (os : Os) (started : os.Started) (H : Type) (enc : TypeId × Value → H) :
    ReturnsInHanded {} Try.checked os 4 .any (Rows.fnExactRevokeGrantSpec.pre6 enc Try.prog Try.f4 Rows.fnExactRevokeGrantRow.domain false) (Rows.fnExactRevokeGrantSpec.post enc Try.prog Try.f4 false true false false) := by
  refine returnsInHanded_of_change (C := Try.checked) own started (by kernel_rfl) Try.func4
    (ChangeSpec.witness6 (enc := enc) (C := Try.checked) false ⟨#[], #[.agg #[.slice none 0 0], .int .i64 0], []⟩ 8 (by kernel_rfl) (by kernel_rfl) (by kernel_rfl) (by kernel_rfl)) ?_
  intro W base args ds gs before hval0 hW hcnd _
  have hval : ∀ (j : Nat) t v, Try.f4.params[j]? = some t → args[j]? = some v → Value.okWide Try.prog W .any base t v := hval0
  have hW' := hW
  obtain ⟨p, q, hA0, hV, rfl, hfz, hnd⟩ := hW
  have hA : DataW.TrodAll enc Try.prog W 0 (fun _ => true) true Try.f4.params.toList args.toList ds p := hA0
  rw [Try.params4] at hA hval
  obtain ⟨v0, vs0, d0, ds0, p0, q0, hargs, rfl, rfl, h0, r0⟩ := trodAll_cons hA
  obtain ⟨v1, vs1, d1, ds1, p1, q1, rfl, rfl, rfl, h1, r1⟩ := trodAll_cons r0
  obtain ⟨rfl, rfl, rfl⟩ := trodAll_nil r1
  obtain rfl : args = #[v0, v1] := by cases args; simp_all
  obtain ⟨rfl, rfl⟩ := trodVars_none hV
  have k0 := h0
  have lt0 : ∀ x ∈ p0, x.block < W.heap.size := by obtain ⟨m, hm⟩ := k0; exact DataW.trod_lt m _ _ _ hm
  obtain ⟨A0, c0, z0, rfl, u0, l0, s0⟩ := openRegister (hval 0 24 v0 rfl rfl) h0
  have k1 := h1
  have lt1 : ∀ x ∈ p1, x.block < W.heap.size := by obtain ⟨m, hm⟩ := k1; exact DataW.trod_lt m _ _ _ hm
  obtain ⟨a1, rfl, -, -, w1⟩ := open_int Try.underlying3 (hval 1 3 v1 rfl rfl) h1
  clear hA0 hval0
  refine (walk W A0 c0 z0 u0 l0 s0 a1 w1).mono fun e W' ⟨he, bel⟩ => ?_
  subst he
  exact ⟨_, rfl, _, _, _, [], _, [], hW', trodAll_mk1 (shut_bool Try.underlying4 _), (trodAll_cons_mk (Below.trod laidOut (by kernel_rfl) (of_decide_eq_true (by kernel_rfl)) k0 bel lt0) (trodAll_cons_mk (Below.trod laidOut (by kernel_rfl) (of_decide_eq_true (by kernel_rfl)) k1 bel lt1) trodAll_mk0)), rfl, bel.frame _, fun h => by cases h⟩

theorem over : Rows.fnExactRevokeGrantRow.holds Try.pinned (OpenSpec.ofChange Rows.fnExactRevokeGrantSpec) :=
  OpenClaim.holds_of_wide 4 Try.f4 rfl rfl rfl rfl rfl rfl rfl ⟨rfl, rfl, rfl, rfl, rfl⟩ rfl rfl rfl rfl rfl (by kernel_rfl) Try.func4 (by kernel_rfl)
    (of_decide_eq_true (by kernel_rfl)) (by unfold Func.isWrapper; first | (rw [if_pos (by decide +kernel)]; kernel_rfl) | (rw [if_neg (by decide +kernel)]; exact ⟨rfl, rfl⟩))
    (fun os started H enc _ => lifted os started H enc)

theorem proved : Rows.FnExactRevokeGrantSaid := over
#print axioms proved

end Go.Proofs.Ytnpehlghbfmbaaa.fnExactRevokeGrant
