/- FnExactParseLetters: for all arguments ParseLetters of the program returns what ParseLetters of the reference returns, in memory of its own. No condition. -/
import Derived.Test.YtlbggefccgpgaaaDoorRows
import Derived.Test.YtlbggefccgpgaaaDoorPL
import Derived.Test.YtlbggefccgpgaaaDoorGGLaw
import Derived.Test.YtlbggefccgpgaaaDoorCards
import Derived.Test.YtlbggefccgpgaaaDoorTie
import Derived.ProofKit
import Derived.LaidMore
import Derived.OpenShut
import Derived.Stop.Joined
import Derived.SevenTiedAt
import Derived.Lay
namespace Go.Proofs.YtlbggefccgpgaaaDoor.fnExactParseLetters
open Go.ChangeShapes Go.WideShapes Go.ChangeAt Go.RowKit
set_option linter.unusedVariables false


set_option maxHeartbeats 4000000 in
theorem walk (s0 : ByteArray) (ws : s0.size ≤ maxLen) (w : World) (h0 : MaxAt w) :
    Calls Tryd.prog 3 #[.string s0] w fun e w' => e = .returned (.bool true) ∧ Below w.heap.size w w' := by
  have HM := Lib.hid h0
  have hT := Below.refl w.heap.size w
  by_cases hs : s0.size ≤ 1048576
  · have g0 : ¬ (1048576 : Int) < (s0.size : Int) := by omega
    obtain ⟨zs, ok, hsm, KS, KI⟩ : ∃ (zs : List (List Int)) (ok : Bool), Small zs ∧ (∀ (w : World), Calls Tryd.prog 5 #[.string s0] w (GridOk w zs ok)) ∧ (∀ (w1 : World), Below w.heap.size w w1 → Calls Tryd.prog 6 #[.string s0] w1 (GridOk w1 zs ok)) := ⟨_, _, pl_small s0, fun w => specParseLetters_any s0 w, fun w1 hb => implParseLetters_any s0 w1 (h0.below hb)⟩
    have KS' := Lib.hid KS
    have KI' := Lib.hid KI
    have hM : ¬ (1 + ((totN zs zs.length : Nat) : Int) < 0) := by omega
    clear KS KI hs h0 ws
    cases ok
    all_goals
      go_enter Tryd.func3, Tryd.ntmps3
      go_wp2_with fail
      refine (KS'.out _).mono ?_
      rintro e s2 ⟨wv, wvs, rfl, hW, sh2⟩
      replace hT := Below_then hT sh2
      have lW := hW.glt
      have hsB := hT.size
      clear sh2
      go_wp2_with fail
      refine (KI'.out _ hT).mono ?_
      rintro e y2 ⟨gv, gvs, rfl, hG, hy2⟩
      have hBG := hT.size
      replace hT := Below_then hT hy2
      replace hW := hW.below hy2
      have hs2 := hy2.size
      have lG := hG.glt
      clear hy2
      go_wp2_with fail
      refine (eqGG hG hW hsm).mono ?_
      rintro e y7 ⟨rfl, hy3⟩
      replace hT := Below_then hT hy3
      replace hW := hW.below hy3
      replace hG := hG.below hy3
      clear hy3
      go_wp2_with fail
      refine (markIntSS_GG _ y7.heap.size _ zs _ 1 _ hG hsm (by omega) (by omega) (Nat.le_refl _)).mono ?_
      rintro e y8 ⟨rfl, hmG, hO8⟩
      replace hW := hW.keep lW hO8 (.inl (by omega))
      replace hT := hO8.below hT (by omega) hT.size
      clear hO8 hG
      go_wp2_with fail
      refine (heldIntSS_marks _ _ zs _ 1 _ hmG hsm (by omega) (by omega)).mono ?_
      rintro e y9 ⟨rfl, hy9⟩
      replace hT := Below_then hT hy9
      replace hW := hW.below hy9
      replace hmG := hmG.below hy9
      clear hy9
      go_wp2_with fail
      refine (KI'.out _ hT).mono ?_
      rintro e t2 ⟨hv, hvs, rfl, hH, th2⟩
      replace hT := Below_then hT th2
      replace hW := hW.below th2
      replace hmG := hmG.below th2
      clear th2
      go_wp2_with fail
      refine (eqGG hH hW hsm).mono ?_
      rintro e t3 ⟨rfl, ht3⟩
      replace hT := Below_then hT ht3
      replace hmG := hmG.below ht3
      clear ht3 hH hW
      go_wp2_with fail
      refine (heldIntSS_marks _ _ zs _ 1 _ hmG hsm (by omega) (by omega)).mono ?_
      rintro e t4 ⟨rfl, ht4⟩
      replace hT := Below_then hT ht4
      clear ht4 hmG
      go_wp2
      go_ret
      exact ⟨rfl, hT⟩
  · have g0 : (1048576 : Int) < (s0.size : Int) := by omega
    go_enter Tryd.func3, Tryd.ntmps3
    go_wp2
    go_ret
    exact ⟨rfl, hT⟩

/-! ### The row's step: written by a program of mine (frame.py) after the kit's shell -/
theorem laidOut : laidOutB Tryd.prog = true := by kernel_rfl
set_option maxRecDepth 100000 in
theorem lifted (os : Os) (started : os.Started) (H : Type) (enc : TypeId × Value → H) :
    ReturnsInHanded {} Tryd.checked os 3 .any (fun w args => (Rows.fnExactParseLettersSpec.pre enc Tryd.prog Tryd.f3 [] false w args ∧ laidMetH Tryd.prog Rows.fnExactParseLettersRow.laid w) ∧ sizedMet enc Tryd.prog Tryd.f3 (OpenSpec.ofChange Rows.fnExactParseLettersSpec) false w args)
      (Rows.fnExactParseLettersSpec.post enc Tryd.prog Tryd.f3 false true false false) := by
  refine returnsInHanded_of_calls (C := Tryd.checked) own started (by kernel_rfl)
    (ChangeSpec.witness_shaped (enc := enc) (C := Tryd.checked) (os := os) (X := fun w _ => laidMetH Tryd.prog Rows.fnExactParseLettersRow.laid w) false (World.laidAll Tryd.prog os Rows.fnExactParseLettersRow.laid) #[.string ⟨#[]⟩] 8 (World.laidAll_os _ _ _)
      (World.shaped_of_ZipB (by kernel_rfl) (by kernel_rfl)) (by kernel_rfl) (by kernel_rfl) (by kernel_rfl)
      (by rw [MakeChecks.laidMetH_plain _ _ _ (by kernel_rfl)]; exact laidMet_laidAll _ (by kernel_rfl) (by kernel_rfl))) ?_
  intro w1 tape inp _ hsh _ hok hpre _
  obtain ⟨_, _, _, fn', hfn', _, _, _, _, hv1⟩ := hok
  obtain rfl : fn' = Tryd.f3 := Option.some.inj (hfn'.symm.trans Tryd.func3)
  obtain ⟨⟨⟨ds, gs, before, hw1, hcnd⟩, hL⟩, -⟩ := hpre
  have hw2 := DataW.Whole.of_heap (w' := w1.forCall tape inp) (by rfl) hw1
  have htab0 := maxAt_shaped hsh
  suffices key : ∀ (W : World) (base : Nat) (args : Array Value), MaxAt W → (∀ (j : Nat) t v, Tryd.f3.params[j]? = some t → args[j]? = some v → Value.okWide Tryd.prog W .any base t v) →
      DataW.Whole enc Tryd.prog Tryd.f3.params.toList Rows.fnExactParseLettersSpec.vars false W args.toList ds gs before →
      Calls Tryd.prog 3 args W fun e W' => ∃ v, e = .returned v ∧ Rows.fnExactParseLettersSpec.post enc Tryd.prog Tryd.f3 false true false false W args v W' from
    (key (w1.forCall tape inp) _ inp.args htab0 hv1 hw2).mono fun e W' ⟨v, he, hp⟩ => by subst he; exact ChangeSpec.post_blind hp
  clear htab0 hw2 hw1 hcnd hL hsh hv1 hfn'
  intro W base args htab hval0 hW
  have hval : ∀ (j : Nat) t v, Tryd.f3.params[j]? = some t → args[j]? = some v → Value.okWide Tryd.prog W .any base t v := hval0
  have hW' := hW
  obtain ⟨p, q, hA0, hV, rfl, hfz, hnd⟩ := hW
  have hA : DataW.TrodAll enc Tryd.prog W 0 (fun _ => true) true Tryd.f3.params.toList args.toList ds p := hA0
  rw [Tryd.params3] at hA hval
  obtain ⟨v0, vs0, d0, ds0, p0, q0, hargs, rfl, rfl, h0, r0⟩ := trodAll_cons hA
  obtain ⟨rfl, rfl, rfl⟩ := trodAll_nil r0
  obtain rfl : args = #[v0] := by cases args; simp_all
  obtain ⟨rfl, rfl⟩ := trodVars_none hV
  have k0 := h0
  have lt0 : ∀ x ∈ p0, x.block < W.heap.size := by obtain ⟨m, hm⟩ := k0; exact DataW.trod_lt m _ _ _ hm
  obtain ⟨s0, rfl, -, -, w0⟩ := Go.ChangeMaps.open_string Tryd.underlying9 (hval 0 9 v0 rfl rfl) h0
  clear hA0 hval0
  refine (walk s0 w0 W htab).mono fun e W' ⟨he, bel⟩ => ?_
  subst he
  exact ⟨_, rfl, _, _, _, [], _, [], hW', trodAll_mk1 (shut_bool Tryd.underlying4 _), (trodAll_cons_mk (Below.trod laidOut (by kernel_rfl) (of_decide_eq_true (by kernel_rfl)) k0 bel lt0) trodAll_mk0), rfl, bel.frame _, fun h => by cases h⟩

theorem over : Rows.FnExactParseLettersSaid :=
  OpenClaim.holds_of_wide 3 Tryd.f3 rfl rfl rfl rfl rfl rfl rfl ⟨rfl, rfl, rfl, rfl, rfl⟩ rfl rfl rfl rfl rfl (by kernel_rfl) Tryd.func3 (by kernel_rfl)
    (of_decide_eq_true (by kernel_rfl)) (by unfold Func.isWrapper; first | (rw [if_pos (by decide +kernel)]; kernel_rfl) | (rw [if_neg (by decide +kernel)]; exact ⟨rfl, rfl⟩))
    (fun os started H enc _ => lifted os started H enc)

theorem proved : Rows.FnExactParseLettersCardSaid :=
  Claim7.holds_tied_plain_at .later [] Rows.fnExactParseLettersCard.laidKinds true Rows.fnExactParseLettersCard.stood.harness false
    over (fun _ h => by cases h) (by kernel_rfl) (fun _ h => by cases h) fnExactParseLetters_row_tie rfl ⟨rfl, rfl⟩ (by kernel_rfl) rfl
    (fun f fn hf hfn => by
      obtain rfl : f = 3 := Option.some.inj ((show Tryd.prog.funcNamed Rows.fnExactParseLettersRow.func = some 3 by kernel_rfl).symm.trans hf) |>.symm
      obtain rfl : fn = Tryd.f3 := (Option.some.inj (Tryd.func3.symm.trans hfn)).symm
      exact ⟨by kernel_rfl, fun j t ht => by
        rw [Tryd.params3] at ht
        have hm : t ∈ ([9] : List TypeId) := by simpa using Array.mem_of_getElem? ht
        have hall : (([9] : List TypeId).all fun u => !Tryd.prog.wantsStandIn u) = true := by kernel_rfl
        exact (show Tryd.prog.wantsStandIn t = false by simpa using List.all_eq_true.1 hall t hm)⟩)
    (by kernel_rfl)
#print axioms proved

end Go.Proofs.YtlbggefccgpgaaaDoor.fnExactParseLetters
