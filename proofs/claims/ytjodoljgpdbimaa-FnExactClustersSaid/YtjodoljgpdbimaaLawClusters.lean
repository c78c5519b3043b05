/- FnExactClusters: for all arguments Clusters of the program returns what Clusters of the reference returns. No condition. -/
import Derived.Test.YtjodoljgpdbimaaRows
import Derived.Test.YtjodoljgpdbimaaClus
import Derived.Test.YtjodoljgpdbimaaRAOpen
import Derived.Test.YtjodoljgpdbimaaRArms2
namespace Go.Proofs.Ytjodoljgpdbimaa.fnExactClusters
open Go.ChangeShapes Go.WideShapes Go.ChangeAt Go.RowKit
set_option linter.unusedVariables false

set_option maxHeartbeats 4000000 in
theorem walk (w : World) (A0 : Option Addr) (c0 : Nat) (z0 : List ArmsD) (u0 : RdR 15 w A0 (acs z0)) (l0 : z0.length ≤ maxLen) (lim : Int) (wl : (Lit.int .i64 lim).wf = true) :
    Calls Try.prog 4 #[.slice A0 z0.length c0, .int .i64 lim] w fun e w' => e = .returned (.bool true) ∧ Below w.heap.size w w' := by
  go_enter Try.func4, Try.ntmps4
  go_wp2_with fail
  refine (szArmsS_any A0 z0.length c0 1048576 _ (by omega) l0).mono ?_
  rintro e y0 ⟨rfl, hy0⟩
  have hT : Below w.heap.size w y0 := by first | (rw [← hy0]; (repeat (first | exact Below.refl _ _ | assumption | refine Below_al ?_ _ | refine Below.drew ?_ | refine Below_then ?_ (by assumption) | refine Below.setCell ?_ (by first | omega | (simp; done) | (simp; omega)) _))) | exact hy0
  by_cases hs : (z0.length : Int) ≤ 1048576
  · rw [if_pos hs]
    have hn : 0 ≤ (1048576 : Int) - z0.length := by omega
    have HS := Lib.hid (show z0.length ≤ 1048576 by omega)
    obtain ⟨zs, ok, hsm, KS, KI⟩ : ∃ (zs : List (List Int)) (ok : Bool), Small zs ∧ (∀ (A : Option Addr) (c : Nat) (w : World), RdR 15 w A (acs z0) → Calls Try.prog 10 #[.slice A z0.length c, .int .i64 lim] w (GridOk w zs ok)) ∧ (∀ (A : Option Addr) (c : Nat) (w : World), RdR 15 w A (acs z0) → Calls Try.prog 12 #[.slice A z0.length c, .int .i64 lim] w (GridOk w zs ok)) := ⟨_, _, (clus_small z0 lim), fun A c w h => specClusters_any A c z0 lim w h HS.out, fun A c w h => implClusters_any A c z0 lim w h HS.out⟩
    have KS' := Lib.hid KS
    have KI' := Lib.hid KI
    have hM : ¬ (1 + ((totN zs zs.length : Nat) : Int) < 0) := by omega
    have hM2 : ¬ (1 + 15 * (z0.length : Int) < 0) := by omega
    clear KS KI l0 hs
    cases ok
    all_goals
      go_wp2_with fail
      refine (toArmsS_any A0 c0 z0 _ (u0.below hT) HS.out).mono ?_
      rintro e s1 ⟨sg, rfl, so, sh1⟩
      replace hT := Below_then hT sh1
      go_wp2_with fail
      refine (KS'.out _ _ _ so.rd).mono ?_
      rintro e s2 ⟨wv, wvs, rfl, hW, sh2⟩
      replace hT := Below_then hT sh2
      have lW := hW.glt
      have hsB := hT.size
      clear so sh1 sh2
      go_wp2_with fail
      refine (toArmsS_any A0 c0 z0 _ (u0.below hT) HS.out).mono ?_
      rintro e y1 ⟨g2, rfl, hoX, hy1⟩
      replace hT := Below_then hT hy1
      replace hW := hW.below hy1
      have hgl := hoX.low
      have hg2 := heap_lt hoX.blk
      clear hy1
      go_wp2_with fail
      refine (KI'.out _ _ _ hoX.rd).mono ?_
      rintro e y2 ⟨gv, gvs, rfl, hG, hy2⟩
      have hBG := hT.size
      replace hT := Below_then hT hy2
      replace hW := hW.below hy2
      replace hoX := hoX.below hy2
      have hs2 := hy2.size
      have lG := hG.glt
      clear hy2
      go_wp2_with fail
      refine (eqGG hG hW hsm).mono ?_
      rintro e y3 ⟨rfl, hy3⟩
      replace hT := Below_then hT hy3
      replace hW := hW.below hy3
      replace hoX := hoX.below hy3
      replace hG := hG.below hy3
      clear hy3
      go_wp2_with fail
      refine (toArmsS_any A0 c0 z0 _ (u0.below hT) HS.out).mono ?_
      rintro e y4 ⟨g5, rfl, ho5, hy4⟩
      replace hT := Below_then hT hy4
      replace hW := hW.below hy4
      replace hoX := hoX.below hy4
      replace hG := hG.below hy4
      clear hy4
      go_wp2_with fail
      refine (eqArmsS_same _ _ _ _ z0 _ hoX.rd ho5.rd HS.out).mono ?_
      rintro e y5 ⟨rfl, hy5⟩
      replace hT := Below_then hT hy5
      replace hW := hW.below hy5
      replace hoX := hoX.below hy5
      replace hG := hG.below hy5
      have hBk := hoX.toBlk
      rw [acs_len] at hBk
      clear hy5 ho5
      go_wp2_with fail
      refine (markArmsS_any g2 z0.length z0.length 1 _ hBk HS.out (by omega) (by omega)).mono ?_
      rintro e y6 ⟨rfl, hg6⟩
      replace hT := hT.grown hg6 hT.size (fun k hk => by injection hk with hk; omega)
      replace hW := hW.beside lW hg6 (fun k hk => by injection hk with hk; omega)
      replace hG := hG.beside lG hg6 (fun k hk => by injection hk with hk; omega)
      have hs6 := hg6.size
      clear hg6 hoX hBk
      go_wp2_with fail
      refine (eqGG hG hW hsm).mono ?_
      rintro e y7 ⟨rfl, hy7⟩
      replace hT := Below_then hT hy7
      replace hW := hW.below hy7
      replace hG := hG.below hy7
      clear hy7
      go_wp2_with fail
      refine (markIntSS_GG _ y7.heap.size _ zs _ 1 _ hG hsm (by omega) (by omega) (Nat.le_refl _)).mono ?_
      rintro e y8 ⟨rfl, hmG, hO8⟩
      replace hW := hW.keep lW hO8 (.inl (by omega))
      replace hT := hO8.below hT (by omega) hT.size
      clear hO8 hG
      go_wp2_with fail
      refine (heldIntSS_marks _ _ zs _ 1 _ hmG hsm (by omega) (by omega)).mono ?_
      rintro e y9 ⟨rfl, hy9⟩
      replace hT := Below_then hT hy9
      replace hW := hW.below hy9
      replace hmG := hmG.below hy9
      clear hy9
      go_wp2_with fail
      refine (toArmsS_any A0 c0 z0 _ (u0.below hT) HS.out).mono ?_
      rintro e t1 ⟨tg, rfl, tto, th1⟩
      replace hT := Below_then hT th1
      replace hW := hW.below th1
      replace hmG := hmG.below th1
      clear th1
      go_wp2_with fail
      refine (KI'.out _ _ _ tto.rd).mono ?_
      rintro e t2 ⟨hv, hvs, rfl, hH, th2⟩
      replace hT := Below_then hT th2
      replace hW := hW.below th2
      replace hmG := hmG.below th2
      clear th2 tto
      go_wp2_with fail
      refine (eqGG hH hW hsm).mono ?_
      rintro e t3 ⟨rfl, ht3⟩
      replace hT := Below_then hT ht3
      replace hmG := hmG.below ht3
      clear ht3 hH hW
      go_wp2_with fail
      refine (heldIntSS_marks _ _ zs _ 1 _ hmG hsm (by omega) (by omega)).mono ?_
      rintro e t4 ⟨rfl, ht4⟩
      replace hT := Below_then hT ht4
      clear ht4 hmG
      go_wp2
      go_ret
      exact ⟨rfl, hT⟩
  · rw [if_neg hs]
    go_wp2
    go_ret
    exact ⟨rfl, hT⟩

/-! ### The row's step: written by a program of mine (frame.py) after the kit's shell -/
theorem laidOut : laidOutB Try.prog = true := by kernel_rfl
set_option maxRecDepth 100000 in
theorem lifted (os : Os) (started : os.Started) (H : Type) (enc : TypeId × Value → H) :
    ReturnsInHanded {} Try.checked os 4 .any (Rows.fnExactClustersSpec.pre6 enc Try.prog Try.f4 Rows.fnExactClustersRow.domain false) (Rows.fnExactClustersSpec.post enc Try.prog Try.f4 false true false false) := by
  refine returnsInHanded_of_change (C := Try.checked) own started (by kernel_rfl) Try.func4
    (ChangeSpec.witness6 (enc := enc) (C := Try.checked) false ⟨#[], #[.slice none 0 0, .int .i64 0], []⟩ 8 (by kernel_rfl) (by kernel_rfl) (by kernel_rfl) (by kernel_rfl)) ?_
  intro W base args ds gs before hval0 hW hcnd _
  have hval : ∀ (j : Nat) t v, Try.f4.params[j]? = some t → args[j]? = some v → Value.okWide Try.prog W .any base t v := hval0
  have hW' := hW
  obtain ⟨p, q, hA0, hV, rfl, hfz, hnd⟩ := hW
  have hA : DataW.TrodAll enc Try.prog W 0 (fun _ => true) true Try.f4.params.toList args.toList ds p := hA0
  rw [Try.params4] at hA hval
  obtain ⟨v0, vs0, d0, ds0, p0, q0, hargs, rfl, rfl, h0, r0⟩ := trodAll_cons hA
  obtain ⟨v1, vs1, d1, ds1, p1, q1, rfl, rfl, rfl, h1, r1⟩ := trodAll_cons r0
  obtain ⟨rfl, rfl, rfl⟩ := trodAll_nil r1
  obtain rfl : args = #[v0, v1] := by cases args; simp_all
  obtain ⟨rfl, rfl⟩ := trodVars_none hV
  have k0 := h0
  have lt0 : ∀ x ∈ p0, x.block < W.heap.size := by obtain ⟨m, hm⟩ := k0; exact DataW.trod_lt m _ _ _ hm
  obtain ⟨A0, c0, z0, rfl, u0, l0⟩ := openArmsS (hval 0 37 v0 rfl rfl) h0
  have k1 := h1
  have lt1 : ∀ x ∈ p1, x.block < W.heap.size := by obtain ⟨m, hm⟩ := k1; exact DataW.trod_lt m _ _ _ hm
  obtain ⟨a1, rfl, -, -, w1⟩ := open_int Try.underlying3 (hval 1 3 v1 rfl rfl) h1
  clear hA0 hval0
  refine (walk W A0 c0 z0 u0 l0 a1 w1).mono fun e W' ⟨he, bel⟩ => ?_
  subst he
  exact ⟨_, rfl, _, _, _, [], _, [], hW', trodAll_mk1 (shut_bool Try.underlying4 _), (trodAll_cons_mk (Below.trod laidOut (by kernel_rfl) (of_decide_eq_true (by kernel_rfl)) k0 bel lt0) (trodAll_cons_mk (Below.trod laidOut (by kernel_rfl) (of_decide_eq_true (by kernel_rfl)) k1 bel lt1) trodAll_mk0)), rfl, bel.frame _, fun h => by cases h⟩

theorem over : Rows.fnExactClustersRow.holds Try.pinned (OpenSpec.ofChange Rows.fnExactClustersSpec) :=
  OpenClaim.holds_of_wide 4 Try.f4 rfl rfl rfl rfl rfl rfl rfl ⟨rfl, rfl, rfl, rfl, rfl⟩ rfl rfl rfl rfl rfl (by kernel_rfl) Try.func4 (by kernel_rfl)
    (of_decide_eq_true (by kernel_rfl)) (by unfold Func.isWrapper; first | (rw [if_pos (by decide +kernel)]; kernel_rfl) | (rw [if_neg (by decide +kernel)]; exact ⟨rfl, rfl⟩))
    (fun os started H enc _ => lifted os started H enc)

theorem proved : Rows.FnExactClustersSaid := over
#print axioms proved

end Go.Proofs.Ytjodoljgpdbimaa.fnExactClusters
