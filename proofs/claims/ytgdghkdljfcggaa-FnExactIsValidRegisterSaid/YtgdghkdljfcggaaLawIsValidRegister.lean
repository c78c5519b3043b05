/- FnExactIsValidRegister: for all arguments IsValidRegister of the program returns what IsValidRegister of the reference returns. No condition. -/
import Derived.Test.YtgdghkdljfcggaaRows
import Derived.Test.YtgdghkdljfcggaaReg2
import Derived.Test.YtgdghkdljfcggaaReg3
import Derived.Test.YtgdghkdljfcggaaReg4
namespace Go.Proofs.Ytgdghkdljfcggaa.fnExactIsValidRegister
open Go.ChangeShapes Go.WideShapes Go.ChangeAt Go.RowKit
set_option linter.unusedVariables false

set_option maxHeartbeats 4000000 in
theorem walk (w : World) (A0 : Option Addr) (c0 : Nat) (z0 : List GrantD) (u0 : RdR 18 w A0 (gcs z0)) (l0 : z0.length ≤ maxLen) (s0 : ∀ g ∈ z0, g.s.size ≤ maxLen) :
    Calls Try.prog 3 #[.agg #[.slice A0 z0.length c0]] w fun e w' => e = .returned (.bool true) ∧ Below w.heap.size w w' := by
  go_enter Try.func3, Try.ntmps3
  go_wp2_with fail
  refine (szRegister_any A0 c0 z0 1048576 _ (u0.below (by (repeat (first | exact Below.refl _ _ | assumption | refine Below_al ?_ _ | refine Below.drew ?_ | refine Below_then ?_ (by assumption) | refine Below.setCell ?_ (by first | omega | (simp; done) | (simp; omega)) _)))) (by omega) (by omega) l0 s0).mono ?_
  rintro e y0 ⟨y, rfl, hy, hy0⟩
  have hT : Below w.heap.size w y0 := by (repeat (first | exact Below.refl _ _ | assumption | refine Below_al ?_ _ | refine Below.drew ?_ | refine Below_then ?_ (by assumption) | refine Below.setCell ?_ (by first | omega | (simp; done) | (simp; omega)) _))
  have hF : y0.heap[w.heap.size]? = some (.cells #[.slice A0 z0.length c0] 24 (0, 0)) := heap_keepB (heap_hit _ _ _ rfl) hy0
  clear hy0
  rcases hy with rfl | ⟨q0, q1, q2⟩
  · go_wp2
    go_ret
    exact ⟨rfl, hT⟩
  have HS := Lib.hid q2
  have hyn : ¬ y < 0 := by omega
  obtain ⟨r, KS, KI⟩ : ∃ r : Bool, (∀ (A : Option Addr) (w : World), RdR 18 w A (gcs z0) → Calls Try.prog 12 #[.agg #[.slice A z0.length z0.length]] w fun e w' => e = .returned (.bool r) ∧ Below w.heap.size w w') ∧ (∀ (A : Option Addr) (w : World), RdR 18 w A (gcs z0) → Calls Try.prog 14 #[.agg #[.slice A z0.length z0.length]] w fun e w' => e = .returned (.bool r) ∧ Below w.heap.size w w') := ⟨_, fun A w h => specIsValidRegister_any A z0.length z0 w h HS.out s0, fun A w h => IsValidRegister_any A z0.length z0 w h HS.out s0 (Nat.le_refl _) l0⟩
  have KS' := Lib.hid KS
  have KI' := Lib.hid KI
  clear KS KI l0 s0 q0 q1 q2
  cases r
  all_goals
    have cF := cell_of hF 0
    go_wp2_with fail
    refine (toRegister_any A0 c0 z0 _ (u0.below hT) HS.out).mono ?_
    rintro e y1 ⟨g1, rfl, ho1, hy1⟩
    have hT := Below_then hT hy1
    have hF := heap_keepB hF hy1
    clear hy1 cF
    go_wp2_with fail
    refine (KS'.out _ _ ho1.rd).mono ?_
    rintro e y2 ⟨rfl, hy2⟩
    have hT := Below_then hT hy2
    have hF := heap_keepB hF hy2
    have cF := cell_of hF 0
    clear hy2 ho1
    go_wp2_with fail
    refine (toRegister_any A0 c0 z0 _ (u0.below hT) HS.out).mono ?_
    rintro e y3 ⟨g2, rfl, hoX, hy3⟩
    have hT := Below_al (Below_then hT hy3) (.cells #[.slice (some ⟨g2, 0, none⟩) z0.length z0.length] 29 (0, 0))
    have hF := heap_keepA (heap_keepB hF hy3) (.cells #[.slice (some ⟨g2, 0, none⟩) z0.length z0.length] 29 (0, 0))
    have hX : (y3.alloc (.cells #[.slice (some ⟨g2, 0, none⟩) z0.length z0.length] 29 (0, 0))).heap[y3.heap.size]? = some (.cells #[.slice (some ⟨g2, 0, none⟩) z0.length z0.length] 29 (0, 0)) := heap_hit _ _ _ rfl
    have hoX := hoX.below (Below_al (Below.refl _ _) (.cells #[.slice (some ⟨g2, 0, none⟩) z0.length z0.length] 29 (0, 0)))
    have cX := cell_of hX 0
    clear hy3 cF
    go_wp2_with fail
    refine (KI'.out _ _ hoX.rd).mono ?_
    rintro e y4 ⟨rfl, hy4⟩
    have hT := Below_then hT hy4
    have hF := heap_keepB hF hy4
    have hX := heap_keepB hX hy4
    have hoX := hoX.below hy4
    obtain ⟨bx, hbx⟩ : ∃ b, b = y3.heap.size := ⟨_, rfl⟩
    have cX : y4.cell? ⟨bx, 0, none⟩ = some (.slice (some ⟨g2, 0, none⟩) z0.length z0.length : Value) := by rw [hbx]; exact cell_of hX 0
    have cF := cell_of hF 0
    go_wp2_with fail
    subst hbx
    refine wp_region_noPanic ?_
    refine wp_region_held_drew (S := (fun w' => w'.cell? ⟨y3.heap.size, 0, none⟩ = some (.slice (some ⟨g2, 0, none⟩) z0.length z0.length : Value) ∧ w'.cell? ⟨w.heap.size, 0, none⟩ = some (.slice A0 z0.length c0 : Value) ∧ Below y4.heap.size y4 w')) (by kernel_rfl) ⟨cX, cF, (Below.refl _ _).drew⟩ (fun hHeld => ?_)
    refine wpAnyH_take (i := 0) (oi := _) (v := ?_) rfl (by kernel_rfl) (by kernel_rfl) (by kernel_rfl) (fun _ _ _ h => h) (Or.inl ⟨by rfl, ?_⟩) (by assumption) ?_
    rotate_left
    · intro w hSw; (try dsimp only at hSw); first | (go_simp; done) | (go_simp; with_reducible rfl)
    simp only [Act.put, List.getElem_toArray, List.getElem_cons_succ, List.getElem_cons_zero, List.setIfInBounds_toArray, List.set_cons_zero, List.set_cons_succ]
    refine wpAnyH_take (i := 1) (oi := _) (v := ?_) rfl (by kernel_rfl) (by kernel_rfl) (by kernel_rfl) (fun _ _ _ h => h) (Or.inl ⟨by rfl, ?_⟩) (by assumption) ?_
    rotate_left
    · intro w hSw; (try dsimp only at hSw); first | (go_simp; done) | (go_simp; with_reducible rfl)
    simp only [Act.put, List.getElem_toArray, List.getElem_cons_succ, List.getElem_cons_zero, List.setIfInBounds_toArray, List.set_cons_zero, List.set_cons_succ]
    refine wpAnyH_ready (rs := [2]) (by kernel_rfl) (by simp) ?_
    refine AllReadyH.cons (o := _) rfl (fun K hK => ?_) AllReadyH.nil
    go_simp
    refine (toRegister_any A0 c0 z0 _ (u0.below (Below_then hT hHeld.2.2)) HS.out).mono ?_
    rintro e v1 ⟨vg, rfl, vo, vh1⟩
    go_wp2_with fail
    refine hK.out _ _ ⟨keep_cell hHeld.1 vh1, keep_cell hHeld.2.1 vh1, Below_then hHeld.2.2 vh1⟩ (fun hHeld => ?_)
    clear hK K
    try simp only [Act.put, List.getElem_toArray, List.getElem_cons_succ, List.getElem_cons_zero, List.setIfInBounds_toArray, List.set_cons_zero, List.set_cons_succ]
    refine wpAnyH_ready (rs := [3]) (by kernel_rfl) (by simp) ?_
    refine AllReadyH.cons (o := _) rfl (fun K hK => ?_) AllReadyH.nil
    go_simp
    refine (eqRegister_same _ _ _ _ z0 _ (hoX.rd.below hHeld.2.2) vo.rd HS.out).mono ?_
    rintro e v2 ⟨rfl, vh2⟩
    go_wp2_with fail
    refine hK.out _ _ ⟨keep_cell hHeld.1 vh2, keep_cell hHeld.2.1 vh2, Below_then hHeld.2.2 vh2⟩ (fun hHeld => ?_)
    clear hK K
    try simp only [Act.put, List.getElem_toArray, List.getElem_cons_succ, List.getElem_cons_zero, List.setIfInBounds_toArray, List.set_cons_zero, List.set_cons_succ]
    refine wpAnyH_take (i := 4) (oi := _) (v := ?_) rfl (by kernel_rfl) (by kernel_rfl) (by kernel_rfl) (fun _ _ _ h => h) (Or.inl ⟨by rfl, ?_⟩) (by assumption) ?_
    rotate_left
    · intro w hSw; clear hSw; first | (go_simp; done) | (go_simp; with_reducible rfl)
    simp only [Act.put, List.getElem_toArray, List.getElem_cons_succ, List.getElem_cons_zero, List.setIfInBounds_toArray, List.set_cons_zero, List.set_cons_succ]
    refine wpAnyH_done (by kernel_rfl) ?_ _
    refine NoPanic.normal ?_

    have hT := Below_then hT hHeld.2.2
    go_wp2
    go_ret
    exact ⟨rfl, hT⟩

/-! ### The row's step: written by a program of mine (frame.py) after the kit's shell -/
theorem laidOut : laidOutB Try.prog = true := by kernel_rfl
set_option maxRecDepth 100000 in
theorem lifted (os : Os) (started : os.Started) (H : Type) (enc : TypeId × Value → H) :
    ReturnsInHanded {} Try.checked os 3 .any (Rows.fnExactIsValidRegisterSpec.pre6 enc Try.prog Try.f3 Rows.fnExactIsValidRegisterRow.domain false) (Rows.fnExactIsValidRegisterSpec.post enc Try.prog Try.f3 false true false false) := by
  refine returnsInHanded_of_change (C := Try.checked) own started (by kernel_rfl) Try.func3
    (ChangeSpec.witness6 (enc := enc) (C := Try.checked) false ⟨#[], #[.agg #[.slice none 0 0]], []⟩ 8 (by kernel_rfl) (by kernel_rfl) (by kernel_rfl) (by kernel_rfl)) ?_
  intro W base args ds gs before hval0 hW hcnd _
  have hval : ∀ (j : Nat) t v, Try.f3.params[j]? = some t → args[j]? = some v → Value.okWide Try.prog W .any base t v := hval0
  have hW' := hW
  obtain ⟨p, q, hA0, hV, rfl, hfz, hnd⟩ := hW
  have hA : DataW.TrodAll enc Try.prog W 0 (fun _ => true) true Try.f3.params.toList args.toList ds p := hA0
  rw [Try.params3] at hA hval
  obtain ⟨v0, vs0, d0, ds0, p0, q0, hargs, rfl, rfl, h0, r0⟩ := trodAll_cons hA
  obtain ⟨rfl, rfl, rfl⟩ := trodAll_nil r0
  obtain rfl : args = #[v0] := by cases args; simp_all
  obtain ⟨rfl, rfl⟩ := trodVars_none hV
  have k0 := h0
  have lt0 : ∀ x ∈ p0, x.block < W.heap.size := by obtain ⟨m, hm⟩ := k0; exact DataW.trod_lt m _ _ _ hm
  obtain ⟨A0, c0, z0, rfl, u0, l0, s0⟩ := openRegister (hval 0 24 v0 rfl rfl) h0
  clear hA0 hval0
  refine (walk W A0 c0 z0 u0 l0 s0).mono fun e W' ⟨he, bel⟩ => ?_
  subst he
  exact ⟨_, rfl, _, _, _, [], _, [], hW', trodAll_mk1 (shut_bool Try.underlying4 _), (trodAll_cons_mk (Below.trod laidOut (by kernel_rfl) (of_decide_eq_true (by kernel_rfl)) k0 bel lt0) trodAll_mk0), rfl, bel.frame _, fun h => by cases h⟩

theorem over : Rows.fnExactIsValidRegisterRow.holds Try.pinned (OpenSpec.ofChange Rows.fnExactIsValidRegisterSpec) :=
  OpenClaim.holds_of_wide 3 Try.f3 rfl rfl rfl rfl rfl rfl rfl ⟨rfl, rfl, rfl, rfl, rfl⟩ rfl rfl rfl rfl rfl (by kernel_rfl) Try.func3 (by kernel_rfl)
    (of_decide_eq_true (by kernel_rfl)) (by unfold Func.isWrapper; first | (rw [if_pos (by decide +kernel)]; kernel_rfl) | (rw [if_neg (by decide +kernel)]; exact ⟨rfl, rfl⟩))
    (fun os started H enc _ => lifted os started H enc)

theorem proved : Rows.FnExactIsValidRegisterSaid := over
#print axioms proved

end Go.Proofs.Ytgdghkdljfcggaa.fnExactIsValidRegister
