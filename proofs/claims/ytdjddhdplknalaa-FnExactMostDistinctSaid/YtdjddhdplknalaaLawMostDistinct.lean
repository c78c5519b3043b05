/- FnExactMostDistinct: for all arguments MostDistinct of the program returns what MostDistinct of the reference returns, leaves its arguments as they are, in memory of its own. No condition. -/
import Derived.Test.YtdjddhdplknalaaRows
import Derived.Test.YtdjddhdplknalaaMost2
import Derived.Test.YtdjddhdplknalaaRAOpen
import Derived.Test.YtdjddhdplknalaaRArms2
namespace Go.Proofs.Ytdjddhdplknalaa.fnExactMostDistinct
open Go.ChangeShapes Go.WideShapes Go.ChangeAt Go.RowKit
set_option linter.unusedVariables false

theorem eqI {A A' : Option Addr} {c c' B B' : Nat} (xs : List Int) (w : World) (h1 : OwnI w B 3 (.slice A xs.length c) xs) (h2 : OwnI w B' 3 (.slice A' xs.length c') xs) (hx : xs.length ≤ 1048576) :
    Calls Try.prog 14 #[.slice A xs.length c, .slice A' xs.length c'] w fun e w' => e = .returned (.bool true) ∧ Below w.heap.size w w' := by
  obtain ⟨A1, c1, e1, r1⟩ := h1.form
  obtain ⟨A2, c2, e2, r2⟩ := h2.form
  injection e1 with e1 _ e1'
  injection e2 with e2 _ e2'
  subst e1 e1' e2 e2'
  exact (eqIntS_any _ _ _ _ xs xs w r1 r2 (by omega) (by omega)).mono fun _ _ ⟨he, hw⟩ => ⟨by rw [he]; simp, hw⟩
theorem heldIK {A : Option Addr} {c B : Nat} (xs : List Int) (k0 : Int) (w : World) (h : OwnI w B 3 (.slice A xs.length c) (marks k0 xs.length)) (hx : xs.length ≤ 1048576) (h0 : 0 ≤ k0) (h1 : k0 ≤ 1048577) :
    Calls Try.prog 18 #[.slice A xs.length c, .int .i64 k0] w fun e w' => e = .returned (.int .i64 (k0 + xs.length)) ∧ Below w.heap.size w w' := by
  obtain ⟨A1, c1, e1, r1⟩ := h.form
  rw [marks_len] at e1
  injection e1 with e1 _ e1'
  subst e1 e1'
  have := heldIntS_any A c (marks k0 xs.length) k0 w r1 (by rw [marks_len]; omega) (by omega) (by omega)
  rw [heldR_marks, marks_len] at this
  exact this
theorem own_apart {w w' : World} {B B' s s' n n' : Nat} {T T' : TypeId} {v v' : Value} {xs xs' : List Value} (h : w.ownsRow B T s v n xs) (h' : w'.ownsRow B' T' s' v' n' xs') (hs : w.heap.size ≤ B') : v.ownBlock = none ∨ v.ownBlock ≠ v'.ownBlock := by
  cases e : v.ownBlock with
  | none => exact .inl rfl
  | some k => exact .inr fun e2 => by have h1 := World.ownsRow.lt h k e; have h2 := World.ownsRow.lt h' k e2.symm; omega
theorem apart_symm {a b : Option Nat} (h : a = none ∨ a ≠ b) : b = none ∨ b ≠ a := by
  rcases h with h | h
  · subst h
    cases b
    · exact .inl rfl
    · exact .inr (by simp)
  · exact .inr fun e => h e.symm
set_option maxHeartbeats 8000000 in
theorem walk (w : World) (A0 : Option Addr) (c0 : Nat) (z0 : List ArmsD) (u0 : RdR 15 w A0 (acs z0)) (l0 : z0.length ≤ maxLen) :
    Calls Try.prog 4 #[.slice A0 z0.length c0] w fun e w' => e = .returned (.bool true) ∧ Below w.heap.size w w' := by
  go_enter Try.func4, Try.ntmps4
  go_wp2_with fail
  refine (szArmsS_any A0 z0.length c0 1048576 _ (by omega) l0).mono ?_
  rintro e y0 ⟨rfl, hy0⟩
  have hT : Below w.heap.size w y0 := by first | (rw [← hy0]; (repeat (first | exact Below.refl _ _ | assumption | refine Below_al ?_ _ | refine Below.drew ?_ | refine Below_then ?_ (by assumption) | refine Below.setCell ?_ (by first | omega | (simp; done) | (simp; omega)) _))) | exact hy0
  by_cases hs : (z0.length : Int) ≤ 1048576
  · rw [if_pos hs]
    have hn : 0 ≤ (1048576 : Int) - z0.length := by omega
    have HS := Lib.hid (show z0.length ≤ 1048576 by omega)
    obtain ⟨zs, ok, hzl, KS, KI⟩ : ∃ (zs : List Int) (ok : Bool), zs.length ≤ 1048576 ∧ (∀ (A : Option Addr) (c : Nat) (w : World), RdR 15 w A (acs z0) → Calls Try.prog 11 #[.slice A z0.length c] w (IntsOk w zs ok)) ∧ (∀ (A : Option Addr) (c : Nat) (w : World), RdR 15 w A (acs z0) → Calls Try.prog 13 #[.slice A z0.length c] w (IntsOk w zs ok)) := ⟨_, _, Nat.le_trans (mdL_len z0) HS.out, fun A c w h => specMost_any A c z0 w h HS.out, fun A c w h => implMost_any A c z0 w h HS.out⟩
    have KS' := Lib.hid KS
    have KI' := Lib.hid KI
    have hM : ¬ (1 + (zs.length : Int) < 0) := by omega
    have hM2 : ¬ (1 + 15 * (z0.length : Int) < 0) := by omega
    clear KS KI l0 hs
    cases ok
    all_goals
      go_wp2_with fail
      refine (toArmsS_any A0 c0 z0 _ (u0.below hT) HS.out).mono ?_
      rintro e y1 ⟨g1, rfl, ho1, hb⟩
      replace hT := Below_then hT hb
      clear hb
      go_wp2_with fail
      refine (KS'.out _ _ _ ho1.rd).mono ?_
      rintro e y2 ⟨vW, rfl, hoW, hb⟩
      replace hT := Below_then hT hb
      clear hb ho1
      obtain ⟨sA, sc, rfl, -⟩ := hoW.form
      go_wp2_with fail
      refine (toArmsS_any A0 c0 z0 _ (u0.below hT) HS.out).mono ?_
      rintro e y3 ⟨gx, rfl, hoX, hb⟩
      have P_hoW_hoX := Lib.hid (show (Value.ownBlock (.slice sA zs.length sc)) = none ∨ (Value.ownBlock (.slice sA zs.length sc)) ≠ some gx from .inr fun e => by have := (hoW.lt _ e).2; have := hoX.low; omega)
      have T_hoX := Lib.hid (show ∀ k, some gx = some k → w.heap.size ≤ k from fun k hk => by injection hk with hk; have := hoX.low; have := hT.size; omega)
      replace hT := Below_then hT hb
      replace hoW := hoW.below hb
      clear hb
      go_wp2_with fail
      refine (KI'.out _ _ _ hoX.rd).mono ?_
      rintro e y4 ⟨vG, rfl, hoG, hb⟩
      have P_hoW_hoG := Lib.hid (own_apart hoW hoG (Nat.le_refl _))
      have P_hoX_hoG := Lib.hid (show some gx = none ∨ some gx ≠ vG.ownBlock from .inr fun e => by have := (hoG.lt _ e.symm).1; have := heap_lt hoX.blk; omega)
      have T_hoG := Lib.hid (show ∀ k, vG.ownBlock = some k → w.heap.size ≤ k from fun k hk => by have := (hoG.lt k hk).1; have := hT.size; omega)
      replace hT := Below_then hT hb
      replace hoW := hoW.below hb
      replace hoX := hoX.below hb
      clear hb
      obtain ⟨gA, gc, rfl, -⟩ := hoG.form
      go_wp2_with fail
      refine (eqI zs _ hoG hoW hzl).mono ?_
      rintro e y5 ⟨rfl, hb⟩
      replace hT := Below_then hT hb
      replace hoW := hoW.below hb
      replace hoX := hoX.below hb
      replace hoG := hoG.below hb
      clear hb
      go_wp2_with fail
      refine (toArmsS_any A0 c0 z0 _ (u0.below hT) HS.out).mono ?_
      rintro e y6 ⟨g5, rfl, ho5, hb⟩
      replace hT := Below_then hT hb
      replace hoW := hoW.below hb
      replace hoX := hoX.below hb
      replace hoG := hoG.below hb
      clear hb
      go_wp2_with fail
      refine (eqArmsS_same _ _ _ _ z0 _ hoX.rd ho5.rd HS.out).mono ?_
      rintro e y7 ⟨rfl, hb⟩
      replace hT := Below_then hT hb
      replace hoW := hoW.below hb
      replace hoX := hoX.below hb
      replace hoG := hoG.below hb
      clear hb ho5
      have hBk := hoX.toBlk
      rw [acs_len] at hBk
      go_wp2_with fail
      refine (markArmsS_any gx z0.length z0.length 1 _ hBk HS.out (by omega) (by omega)).mono ?_
      rintro e y8 ⟨rfl, hg⟩
      replace hT := hT.grown hg hT.size T_hoX.out
      replace hoW := hoW.other hg P_hoW_hoX.out
      replace hoG := hoG.other hg (apart_symm P_hoX_hoG.out)
      clear hg hoX
      clear hBk
      go_wp2_with fail
      refine (eqI zs _ hoG hoW hzl).mono ?_
      rintro e y9 ⟨rfl, hb⟩
      replace hT := Below_then hT hb
      replace hoW := hoW.below hb
      replace hoG := hoG.below hb
      clear hb
      go_wp2_with fail
      refine (markIntS_any _ _ zs 1 _ hoG (by omega) (by omega) (by omega)).mono ?_
      rintro e y10 ⟨rfl, hmG, hg⟩
      replace hT := hT.grown hg hT.size T_hoG.out
      replace hoW := hoW.other hg P_hoW_hoG.out
      clear hg hoG
      go_wp2_with fail
      refine (heldIK zs 1 _ hmG (by omega) (by omega) (by omega)).mono ?_
      rintro e y11 ⟨rfl, hb⟩
      replace hT := Below_then hT hb
      replace hoW := hoW.below hb
      replace hmG := hmG.below hb
      clear hb
      go_wp2_with fail
      refine (toArmsS_any A0 c0 z0 _ (u0.below hT) HS.out).mono ?_
      rintro e y12 ⟨g3, rfl, ho3, hb⟩
      replace hT := Below_then hT hb
      replace hoW := hoW.below hb
      replace hmG := hmG.below hb
      clear hb
      go_wp2_with fail
      refine (KI'.out _ _ _ ho3.rd).mono ?_
      rintro e y13 ⟨vH, rfl, hoH, hb⟩
      replace hT := Below_then hT hb
      replace hoW := hoW.below hb
      replace hmG := hmG.below hb
      clear hb ho3
      obtain ⟨hA, hc, rfl, -⟩ := hoH.form
      go_wp2_with fail
      refine (eqI zs _ hoH hoW hzl).mono ?_
      rintro e y14 ⟨rfl, hb⟩
      replace hT := Below_then hT hb
      replace hoW := hoW.below hb
      replace hmG := hmG.below hb
      replace hoH := hoH.below hb
      clear hb
      go_wp2_with fail
      refine (heldIK zs 1 _ hmG (by omega) (by omega) (by omega)).mono ?_
      rintro e y15 ⟨rfl, hb⟩
      replace hT := Below_then hT hb
      replace hoW := hoW.below hb
      replace hmG := hmG.below hb
      replace hoH := hoH.below hb
      clear hb
      go_wp2
      go_ret
      exact ⟨rfl, hT⟩
  · rw [if_neg hs]
    have hn : ¬ (0 ≤ (-1 : Int)) := by omega
    go_wp2
    go_ret
    exact ⟨rfl, hT⟩

/-! ### The row's step: written by a program of mine (frame.py) after the kit's shell -/
theorem laidOut : laidOutB Try.prog = true := by kernel_rfl
set_option maxRecDepth 100000 in
theorem lifted (os : Os) (started : os.Started) (H : Type) (enc : TypeId × Value → H) :
    ReturnsInHanded {} Try.checked os 4 .any (Rows.fnExactMostDistinctSpec.pre6 enc Try.prog Try.f4 Rows.fnExactMostDistinctRow.domain false) (Rows.fnExactMostDistinctSpec.post enc Try.prog Try.f4 false true false false) := by
  refine returnsInHanded_of_change (C := Try.checked) own started (by kernel_rfl) Try.func4
    (ChangeSpec.witness6 (enc := enc) (C := Try.checked) false ⟨#[], #[.slice none 0 0], []⟩ 8 (by kernel_rfl) (by kernel_rfl) (by kernel_rfl) (by kernel_rfl)) ?_
  intro W base args ds gs before hval0 hW hcnd _
  have hval : ∀ (j : Nat) t v, Try.f4.params[j]? = some t → args[j]? = some v → Value.okWide Try.prog W .any base t v := hval0
  have hW' := hW
  obtain ⟨p, q, hA0, hV, rfl, hfz, hnd⟩ := hW
  have hA : DataW.TrodAll enc Try.prog W 0 (fun _ => true) true Try.f4.params.toList args.toList ds p := hA0
  rw [Try.params4] at hA hval
  obtain ⟨v0, vs0, d0, ds0, p0, q0, hargs, rfl, rfl, h0, r0⟩ := trodAll_cons hA
  obtain ⟨rfl, rfl, rfl⟩ := trodAll_nil r0
  obtain rfl : args = #[v0] := by cases args; simp_all
  obtain ⟨rfl, rfl⟩ := trodVars_none hV
  have k0 := h0
  have lt0 : ∀ x ∈ p0, x.block < W.heap.size := by obtain ⟨m, hm⟩ := k0; exact DataW.trod_lt m _ _ _ hm
  obtain ⟨A0, c0, z0, rfl, u0, l0⟩ := openArmsS (hval 0 37 v0 rfl rfl) h0
  clear hA0 hval0
  refine (walk W A0 c0 z0 u0 l0).mono fun e W' ⟨he, bel⟩ => ?_
  subst he
  exact ⟨_, rfl, _, _, _, [], _, [], hW', trodAll_mk1 (shut_bool Try.underlying4 _), (trodAll_cons_mk (Below.trod laidOut (by kernel_rfl) (of_decide_eq_true (by kernel_rfl)) k0 bel lt0) trodAll_mk0), rfl, bel.frame _, fun h => by cases h⟩

theorem over : Rows.fnExactMostDistinctRow.holds Try.pinned (OpenSpec.ofChange Rows.fnExactMostDistinctSpec) :=
  OpenClaim.holds_of_wide 4 Try.f4 rfl rfl rfl rfl rfl rfl rfl ⟨rfl, rfl, rfl, rfl, rfl⟩ rfl rfl rfl rfl rfl (by kernel_rfl) Try.func4 (by kernel_rfl)
    (of_decide_eq_true (by kernel_rfl)) (by unfold Func.isWrapper; first | (rw [if_pos (by decide +kernel)]; kernel_rfl) | (rw [if_neg (by decide +kernel)]; exact ⟨rfl, rfl⟩))
    (fun os started H enc _ => lifted os started H enc)

theorem proved : Rows.FnExactMostDistinctSaid := over
#print axioms proved

end Go.Proofs.Ytdjddhdplknalaa.fnExactMostDistinct
