/- FnExactChangedCells: for all arguments ChangedCells of the program returns what ChangedCells of the reference returns. No condition. -/
import Derived.Test.YtgnfgkkepninpaaRows
import Derived.Test.YtgnfgkkepninpaaChg2
import Derived.Test.YtgnfgkkepninpaaGMark
import Derived.Test.YtgnfgkkepninpaaGOpen
namespace Go.Proofs.Ytgnfgkkepninpaa.fnExactChangedCells
open Go.ChangeShapes Go.WideShapes Go.ChangeAt Go.RowKit
set_option linter.unusedVariables false

set_option maxHeartbeats 8000000 in
theorem walk (w : World) (A0 : Option Addr) (c0 : Nat) (z0 : List (List Int)) (u0 : RdG w A0 z0) (l0 : z0.length ≤ maxLen) (w0 : ∀ row ∈ z0, row.length ≤ maxLen ∧ ∀ z ∈ row, (Lit.int .i64 z).wf = true) (A1 : Option Addr) (c1 : Nat) (z1 : List (List Int)) (u1 : RdG w A1 z1) (l1 : z1.length ≤ maxLen) (w1 : ∀ row ∈ z1, row.length ≤ maxLen ∧ ∀ z ∈ row, (Lit.int .i64 z).wf = true) :
    Calls Try.prog 7 #[.slice A0 z0.length c0, .slice A1 z1.length c1] w fun e w' => e = .returned (.bool true) ∧ Below w.heap.size w w' := by
  have hT := Below.refl w.heap.size w
  go_enter Try.func7, Try.ntmps7
  go_wp2_with fail
  refine (szIntSS_any A0 c0 z0 1048576 _ u0 (by omega) (by omega) l0 (fun r hr => (w0 r hr).1)).mono ?_
  rintro e y0 ⟨y, rfl, hy, rfl⟩
  rcases hy with rfl | ⟨ya, yb, s1, s2⟩
  · go_wp2
    go_ret
    exact ⟨rfl, hT⟩
  have HS0 := Lib.hid (show Small z0 from ⟨s1, s2⟩)
  clear s1 s2
  go_wp2_with fail
  refine (szIntSS_any A1 c1 z1 y _ u1 ya yb l1 (fun r hr => (w1 r hr).1)).mono ?_
  rintro e y0 ⟨y2, rfl, hy, rfl⟩
  rcases hy with rfl | ⟨yc, yd, s1, s2⟩
  · go_wp2
    go_ret
    exact ⟨rfl, hT⟩
  have HS1 := Lib.hid (show Small z1 from ⟨s1, s2⟩)
  clear s1 s2 l0 l1 w0 w1
  obtain ⟨zs, ok, KS, KI, hlen⟩ : ∃ (zs : List Int) (ok : Bool), (∀ (A A' : Option Addr) (c c' : Nat) (w : World), RdG w A z0 → RdG w A' z1 → Calls Try.prog 24 #[.slice A z0.length c, .slice A' z1.length c'] w (RegOk w zs ok)) ∧ (∀ (A A' : Option Addr) (c c' : Nat) (w : World), RdG w A z0 → RdG w A' z1 → Calls Try.prog 25 #[.slice A z0.length c, .slice A' z1.length c'] w (RegOk w zs ok)) ∧ zs.length ≤ 1000 :=
    ⟨chgR z0 z1, chgOk z0 z1, fun A A' c c' w h1 h2 => specChangedCells_any A A' c c' z0 z1 w h1 h2 HS0.out HS1.out, fun A A' c c' w h1 h2 => ChangedCells_any A A' c c' z0 z1 w h1 h2 HS0.out HS1.out, by unfold chgR; cases chgOk z0 z1 <;> simp [regRows_len]⟩
  have KS' := Lib.hid KS
  have KI' := Lib.hid KI
  clear KS KI
  go_wp2_with fail
  refine (toIntSS_any A0 c0 z0 _ (u0.below hT) HS0.out).mono ?_
  rintro e p1 ⟨gpp1, vpp1, rfl, opp1, hx⟩
  have rp := opp1.rd
  clear opp1
  have hT := Below_then hT hx
  clear hx
  go_wp2_with fail
  refine (toIntSS_any A1 c1 z1 _ (u1.below hT) HS1.out).mono ?_
  rintro e p2 ⟨gpp2, vpp2, rfl, opp2, hx⟩
  have rq := opp2.rd
  have rp := rp.below hx
  clear opp2
  have hT := Below_then hT hx
  clear hx
  go_wp2_with fail
  refine (KS'.out _ _ _ _ _ rp rq).mono ?_
  rintro e p3 ⟨vW, rfl, oW, hx⟩
  clear rp rq
  have hT := Below_then hT hx
  clear hx
  obtain ⟨AW, cW, rfl, -⟩ := oW.form
  have lW := fun k hk => (oW.lt k hk).2
  have LW := Lib.hid lW
  clear lW
  have GW := Lib.hid hT.size
  have hT := Below_al hT (.cells #[.slice AW zs.length cW] 41)
  have oW := oW.alloc (.cells #[.slice AW zs.length cW] 41)
  have hW : (p3.alloc (.cells #[.slice AW zs.length cW] 41)).heap[p3.heap.size]? = some (.cells #[.slice AW zs.length cW] 41 (0, 0)) := heap_hit _ _ _ rfl
  go_wp2_with fail
  refine (toIntSS_any A0 c0 z0 _ (u0.below hT) HS0.out).mono ?_
  rintro e q1 ⟨g0, v0, rfl, o0, hx⟩
  have hT := Below_then hT hx
  have oW := oW.below hx
  have hW := heap_keepB hW hx
  have b0 := o0.low
  simp only [World.size_alloc] at b0
  have g0h := heap_lt o0.blk
  have H0H := Lib.hid o0.hi
  clear hx
  go_wp2_with fail
  refine (toIntSS_any A1 c1 z1 _ (u1.below hT) HS1.out).mono ?_
  rintro e q2 ⟨g1, v1, rfl, o1, hx⟩
  have hT := Below_then hT hx
  have oW := oW.below hx
  have hW := heap_keepB hW hx
  have o0 := o0.below hx
  have b1 := o1.low
  have g1h := heap_lt o1.blk
  have H1H := Lib.hid o1.hi
  clear hx
  go_wp2_with fail
  refine (KI'.out _ _ _ _ _ o0.rd o1.rd).mono ?_
  rintro e q3 ⟨vG, rfl, oG, hx⟩
  have hT := Below_then hT hx
  have oW := oW.below hx
  have hW := heap_keepB hW hx
  have o0 := o0.below hx
  have o1 := o1.below hx
  obtain ⟨AG, cG, rfl, -⟩ := oG.form
  have LG := Lib.hid (fun k hk => oG.lt k hk)
  have q23 := hx.size
  clear hx
  have hT := Below_al hT (.cells #[.slice AG zs.length cG] 41)
  have oW := oW.alloc (.cells #[.slice AG zs.length cG] 41)
  have hW := heap_keepA hW (.cells #[.slice AG zs.length cG] 41)
  have o0 := o0.below (Below_al (Below.refl _ _) (.cells #[.slice AG zs.length cG] 41))
  have o1 := o1.below (Below_al (Below.refl _ _) (.cells #[.slice AG zs.length cG] 41))
  have oG := oG.alloc (.cells #[.slice AG zs.length cG] 41)
  have hG : (q3.alloc (.cells #[.slice AG zs.length cG] 41)).heap[q3.heap.size]? = some (.cells #[.slice AG zs.length cG] 41 (0, 0)) := heap_hit _ _ _ rfl
  have khG := cell_of hG 0
  have khW := cell_of hW 0
  go_wp2_with fail
  clear khG khW
  refine (eqRegion_same zs _ oG oW (by omega)).mono ?_
  rintro e q4 ⟨rfl, hx⟩
  have hT := Below_then hT hx
  have oW := oW.below hx
  have hW := heap_keepB hW hx
  have o0 := o0.below hx
  have o1 := o1.below hx
  have oG := oG.below hx
  have hG := heap_keepB hG hx
  clear hx
  go_wp2_with fail
  refine (toIntSS_any A0 c0 z0 _ (u0.below hT) HS0.out).mono ?_
  rintro e q5 ⟨gt0, vt0, rfl, ot0, hx⟩
  have rt := ot0.rd
  clear ot0
  have hT := Below_then hT hx
  have oW := oW.below hx
  have hW := heap_keepB hW hx
  have o0 := o0.below hx
  have o1 := o1.below hx
  have oG := oG.below hx
  have hG := heap_keepB hG hx
  clear hx
  go_wp2_with fail
  refine (eqIntSS_same _ _ _ _ z0 _ o0.rd rt HS0.out).mono ?_
  rintro e q6 ⟨rfl, hx⟩
  clear rt
  have hT := Below_then hT hx
  have oW := oW.below hx
  have hW := heap_keepB hW hx
  have o0 := o0.below hx
  have o1 := o1.below hx
  have oG := oG.below hx
  have hG := heap_keepB hG hx
  clear hx
  go_wp2_with fail
  refine (toIntSS_any A1 c1 z1 _ (u1.below hT) HS1.out).mono ?_
  rintro e q7 ⟨gt1, vt1, rfl, ot1, hx⟩
  have rt := ot1.rd
  clear ot1
  have hT := Below_then hT hx
  have oW := oW.below hx
  have hW := heap_keepB hW hx
  have o0 := o0.below hx
  have o1 := o1.below hx
  have oG := oG.below hx
  have hG := heap_keepB hG hx
  clear hx
  go_wp2_with fail
  refine (eqIntSS_same _ _ _ _ z1 _ o1.rd rt HS1.out).mono ?_
  rintro e q8 ⟨rfl, hx⟩
  clear rt
  have hT := Below_then hT hx
  have oW := oW.below hx
  have hW := heap_keepB hW hx
  have o0 := o0.below hx
  have o1 := o1.below hx
  have oG := oG.below hx
  have hG := heap_keepB hG hx
  clear hx
  have wg := hT.size
  have q1q2 : q1.heap.size ≤ q2.heap.size := by omega
  have hw0 : w.heap.size ≤ g0 := by have := GW.out; omega
  go_wp2_with fail
  refine (markIntSS_any _ g0 q1.heap.size z0 v0 1 _ o0 HS0.out (by omega) (by omega) g0h H0H.out).mono ?_
  rintro e q9 ⟨rfl, ho⟩
  have t0 := totN_le HS0.out z0.length (Nat.le_refl _)
  have s0 := HS0.out.len
  have hT := Out.below hT ho hw0 hT.size
  have hW := ho.heap hW (.inl (by omega))
  have oW := ho.own oW (fun k hk => .inl (by have := LW.out k hk; omega))
  have o1 := o1.out ho b1
  have hG := ho.heap hG (.inr (by omega))
  have oG := ho.own oG (fun k hk => .inr (by have := LG.out k hk; omega))
  clear ho o0
  generalize totN z0 z0.length = T0 at *
  go_wp2_with fail
  refine (markIntSS_any _ g1 q2.heap.size z1 v1 _ _ o1 HS1.out (by omega) (by omega) g1h H1H.out).mono ?_
  rintro e r0 ⟨rfl, ho⟩
  have hT := Out.below hT ho (by omega) hT.size
  have hW := ho.heap hW (.inl (by omega))
  have oW := ho.own oW (fun k hk => .inl (by have := LW.out k hk; omega))
  have hG := ho.heap hG (.inr (by omega))
  have oG := ho.own oG (fun k hk => .inr (by have := LG.out k hk; omega))
  clear ho o1
  have t1 : 0 ≤ (1 : Int) + (T0 : Int) + ((totN z1 z1.length : Nat) : Int) := by omega
  have t2 := totN_le HS1.out z1.length (Nat.le_refl _)
  have s1 := HS1.out.len
  generalize totN z1 z1.length = T1 at *
  have khG := cell_of hG 0
  have khW := cell_of hW 0
  go_wp2_with fail
  clear khG khW
  refine (eqRegion_same zs _ oG oW (by omega)).mono ?_
  rintro e r1 ⟨rfl, hx⟩
  have hT := Below_then hT hx
  have oW := oW.below hx
  have hW := heap_keepB hW hx
  have oG := oG.below hx
  have hG := heap_keepB hG hx
  clear hx
  have khG := cell_of hG 0
  go_wp2_with fail
  clear khG
  refine (markRegion_any _ _ zs 1 _ oG (by omega) (by omega) (by omega)).mono ?_
  rintro e r2 ⟨rfl, om, hg⟩
  have hgt : ∀ k, (Value.slice AG zs.length cG).ownBlock = some k → w.heap.size ≤ k := fun k hk => by have := LG.out k hk; omega
  have hT := hT.grown hg hT.size hgt
  have hW := heap_keepG hW hg (fun e => by have := LG.out _ e; omega)
  have hG := heap_keepG hG hg (fun e => by have := LG.out _ e; omega)
  have oW := oW.other hg (by
    cases e : (Value.slice AW zs.length cW).ownBlock with
    | none => exact .inl rfl
    | some k => exact .inr fun e2 => by have h1 := LW.out k e; have h2 := LG.out k e2.symm; omega)
  have oG := om
  clear om hg hgt
  have khG := cell_of hG 0
  go_wp2_with fail
  clear khG
  refine (heldRegion_marks zs.length 1 _ oG (by omega) (by omega) (by omega)).mono ?_
  rintro e r3 ⟨rfl, hx⟩
  have hT := Below_then hT hx
  have oW := oW.below hx
  have hW := heap_keepB hW hx
  have oG := oG.below hx
  have hG := heap_keepB hG hx
  clear hx
  go_wp2_with fail
  refine (toIntSS_any A0 c0 z0 _ (u0.below hT) HS0.out).mono ?_
  rintro e s1 ⟨gps1, vps1, rfl, ops1, hx⟩
  have rp := ops1.rd
  clear ops1
  have hT := Below_then hT hx
  have oW := oW.below hx
  have hW := heap_keepB hW hx
  have oG := oG.below hx
  have hG := heap_keepB hG hx
  clear hx
  go_wp2_with fail
  refine (toIntSS_any A1 c1 z1 _ (u1.below hT) HS1.out).mono ?_
  rintro e s2 ⟨gps2, vps2, rfl, ops2, hx⟩
  have rq := ops2.rd
  have rp := rp.below hx
  clear ops2
  have hT := Below_then hT hx
  have oW := oW.below hx
  have hW := heap_keepB hW hx
  have oG := oG.below hx
  have hG := heap_keepB hG hx
  clear hx
  go_wp2_with fail
  refine (KI'.out _ _ _ _ _ rp rq).mono ?_
  rintro e s3 ⟨vH, rfl, oH, hx⟩
  clear rp rq
  have hT := Below_then hT hx
  have oW := oW.below hx
  have hW := heap_keepB hW hx
  have oG := oG.below hx
  have hG := heap_keepB hG hx
  clear hx
  obtain ⟨AH, cH, rfl, -⟩ := oH.form
  have hT := Below_al hT (.cells #[.slice AH zs.length cH] 41)
  have oW := oW.alloc (.cells #[.slice AH zs.length cH] 41)
  have hW := heap_keepA hW (.cells #[.slice AH zs.length cH] 41)
  have oG := oG.alloc (.cells #[.slice AH zs.length cH] 41)
  have hG := heap_keepA hG (.cells #[.slice AH zs.length cH] 41)
  have oH := oH.alloc (.cells #[.slice AH zs.length cH] 41)
  have hH : (s3.alloc (.cells #[.slice AH zs.length cH] 41)).heap[s3.heap.size]? = some (.cells #[.slice AH zs.length cH] 41 (0, 0)) := heap_hit _ _ _ rfl
  have khH := cell_of hH 0
  have khW := cell_of hW 0
  go_wp2_with fail
  clear khH khW
  refine (eqRegion_same zs _ oH oW (by omega)).mono ?_
  rintro e s4 ⟨rfl, hx⟩
  have hT := Below_then hT hx
  have oW := oW.below hx
  have hW := heap_keepB hW hx
  have oG := oG.below hx
  have hG := heap_keepB hG hx
  have oH := oH.below hx
  have hH := heap_keepB hH hx
  clear hx
  have khG := cell_of hG 0
  go_wp2_with fail
  clear khG
  refine (heldRegion_marks zs.length 1 _ oG (by omega) (by omega) (by omega)).mono ?_
  rintro e s5 ⟨rfl, hx⟩
  have hT := Below_then hT hx
  have oW := oW.below hx
  have hW := heap_keepB hW hx
  have oG := oG.below hx
  have hG := heap_keepB hG hx
  have oH := oH.below hx
  have hH := heap_keepB hH hx
  clear hx
  go_wp2
  go_ret
  exact ⟨rfl, hT⟩

/-! ### The row's step: written by a program of mine (frame.py) after the kit's shell -/
theorem laidOut : laidOutB Try.prog = true := by kernel_rfl
set_option maxRecDepth 100000 in
theorem lifted (os : Os) (started : os.Started) (H : Type) (enc : TypeId × Value → H) :
    ReturnsInHanded {} Try.checked os 7 .any (Rows.fnExactChangedCellsSpec.pre6 enc Try.prog Try.f7 Rows.fnExactChangedCellsRow.domain false) (Rows.fnExactChangedCellsSpec.post enc Try.prog Try.f7 false true false false) := by
  refine returnsInHanded_of_change (C := Try.checked) own started (by kernel_rfl) Try.func7
    (ChangeSpec.witness6 (enc := enc) (C := Try.checked) false ⟨#[], #[.slice none 0 0, .slice none 0 0], []⟩ 8 (by kernel_rfl) (by kernel_rfl) (by kernel_rfl) (by kernel_rfl)) ?_
  intro W base args ds gs before hval0 hW hcnd _
  have hval : ∀ (j : Nat) t v, Try.f7.params[j]? = some t → args[j]? = some v → Value.okWide Try.prog W .any base t v := hval0
  have hW' := hW
  obtain ⟨p, q, hA0, hV, rfl, hfz, hnd⟩ := hW
  have hA : DataW.TrodAll enc Try.prog W 0 (fun _ => true) true Try.f7.params.toList args.toList ds p := hA0
  rw [Try.params7] at hA hval
  obtain ⟨v0, vs0, d0, ds0, p0, q0, hargs, rfl, rfl, h0, r0⟩ := trodAll_cons hA
  obtain ⟨v1, vs1, d1, ds1, p1, q1, rfl, rfl, rfl, h1, r1⟩ := trodAll_cons r0
  obtain ⟨rfl, rfl, rfl⟩ := trodAll_nil r1
  obtain rfl : args = #[v0, v1] := by cases args; simp_all
  obtain ⟨rfl, rfl⟩ := trodVars_none hV
  have k0 := h0
  have lt0 : ∀ x ∈ p0, x.block < W.heap.size := by obtain ⟨m, hm⟩ := k0; exact DataW.trod_lt m _ _ _ hm
  obtain ⟨A0, c0, z0, rfl, u0, l0, w0⟩ := openGrid (hval 0 34 v0 rfl rfl) h0
  have k1 := h1
  have lt1 : ∀ x ∈ p1, x.block < W.heap.size := by obtain ⟨m, hm⟩ := k1; exact DataW.trod_lt m _ _ _ hm
  obtain ⟨A1, c1, z1, rfl, u1, l1, w1⟩ := openGrid (hval 1 34 v1 rfl rfl) h1
  clear hA0 hval0
  refine (walk W A0 c0 z0 u0 l0 w0 A1 c1 z1 u1 l1 w1).mono fun e W' ⟨he, bel⟩ => ?_
  subst he
  exact ⟨_, rfl, _, _, _, [], _, [], hW', trodAll_mk1 (shut_bool Try.underlying4 _), (trodAll_cons_mk (Below.trod laidOut (by kernel_rfl) (of_decide_eq_true (by kernel_rfl)) k0 bel lt0) (trodAll_cons_mk (Below.trod laidOut (by kernel_rfl) (of_decide_eq_true (by kernel_rfl)) k1 bel lt1) trodAll_mk0)), rfl, bel.frame _, fun h => by cases h⟩

theorem over : Rows.fnExactChangedCellsRow.holds Try.pinned (OpenSpec.ofChange Rows.fnExactChangedCellsSpec) :=
  OpenClaim.holds_of_wide 7 Try.f7 rfl rfl rfl rfl rfl rfl rfl ⟨rfl, rfl, rfl, rfl, rfl⟩ rfl rfl rfl rfl rfl (by kernel_rfl) Try.func7 (by kernel_rfl)
    (of_decide_eq_true (by kernel_rfl)) (by unfold Func.isWrapper; first | (rw [if_pos (by decide +kernel)]; kernel_rfl) | (rw [if_neg (by decide +kernel)]; exact ⟨rfl, rfl⟩))
    (fun os started H enc _ => lifted os started H enc)

theorem proved : Rows.FnExactChangedCellsSaid := over
#print axioms proved

end Go.Proofs.Ytgnfgkkepninpaa.fnExactChangedCells
