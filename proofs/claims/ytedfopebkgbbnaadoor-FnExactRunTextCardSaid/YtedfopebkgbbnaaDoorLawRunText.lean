/- FnExactRunText: for all arguments RunText of the program returns what RunText of the reference returns, and leaves its argument as it is. No condition. -/
import Derived.Test.YtedfopebkgbbnaaDoorRows
import Derived.Test.YtedfopebkgbbnaaDoorRunT
import Derived.Test.YtedfopebkgbbnaaDoorGOpen
import Derived.Test.YtedfopebkgbbnaaDoorCards
import Derived.Test.YtedfopebkgbbnaaDoorTie
import Derived.ProofKit
import Derived.LaidMore
import Derived.OpenShut
import Derived.Stop.Joined
import Derived.SevenTiedAt
namespace Go.Proofs.YtedfopebkgbbnaaDoor.fnExactRunText
open Go.ChangeShapes Go.WideShapes Go.ChangeAt Go.RowKit
set_option linter.unusedVariables false

theorem tabHere {W : World} (hL : laidMetH Tryd.prog Rows.fnExactRunTextRow.laid W) : Lib.TabIs Tryd.prog W "internal/strconv.uint64pow10" .u64 Lib.pow10Tab := tab_of hL

set_option maxHeartbeats 1000000 in
theorem walk (w : World) (A0 : Option Addr) (c0 : Nat) (z0 : List (List Int)) (u0 : RdG w A0 z0) (l0 : z0.length ≤ maxLen) (w0 : ∀ row ∈ z0, row.length ≤ maxLen ∧ ∀ z ∈ row, (Lit.int .i64 z).wf = true) (htab : Lib.TabIs Tryd.prog w "internal/strconv.uint64pow10" .u64 Lib.pow10Tab) :
    Calls Tryd.prog 3 #[.slice A0 z0.length c0] w fun e w' => e = .returned (.bool true) ∧ Below w.heap.size w w' := by
  have HIT := Lib.hid (itoaAt_tab htab)
  clear htab
  have hT := Below.refl w.heap.size w
  go_enter Tryd.func3, Tryd.ntmps3
  go_wp2_with fail
  refine (szIntSS_any A0 c0 z0 1048576 _ u0 (by omega) (by omega) l0 (fun r hr => (w0 r hr).1)).mono ?_
  rintro e y0 ⟨y, rfl, hy, rfl⟩
  rcases hy with rfl | ⟨g0, g1, s1, s2⟩
  · go_wp2
    go_ret
    exact ⟨rfl, hT⟩
  have HS := Lib.hid (show Small z0 from ⟨s1, s2⟩)
  clear s1 s2
  obtain ⟨s, x, KS, KI⟩ : ∃ (s : ByteArray) (x : Bool), (∀ (A : Option Addr) (c : Nat) (w : World), RdG w A z0 → Calls Tryd.prog 7 #[.slice A z0.length c] w fun e w' => e = .returned (.tuple #[.string s, .bool x]) ∧ Below w.heap.size w w') ∧ (∀ (A : Option Addr) (c : Nat) (w : World), ItoaAt w → RdG w A z0 → Calls Tryd.prog 9 #[.slice A z0.length c] w fun e w' => e = .returned (.tuple #[.string s, .bool x]) ∧ Below w.heap.size w w') := ⟨_, _, fun A c w h => specRunText_any A c z0 w h HS.out, fun A c w hI h => implRunText_any A c z0 w h HS.out hI⟩
  have KS' := Lib.hid KS
  have KI' := Lib.hid KI
  clear KS KI l0 w0
  go_wp2_with fail
  refine (toIntSS_any A0 c0 z0 _ (u0.below hT) HS.out).mono ?_
  rintro e y1 ⟨g1, vs1, rfl, ho1, hy1⟩
  have hr1 := ho1.rd
  have hT := Below_then hT hy1
  clear ho1 hy1
  go_wp2_with fail
  refine (KS'.out _ _ _ hr1).mono ?_
  rintro e y2 ⟨rfl, hy2⟩
  have hT := Below_then hT hy2
  clear hr1 hy2
  go_wp2_with fail
  refine (toIntSS_any A0 c0 z0 _ (u0.below hT) HS.out).mono ?_
  rintro e y3 ⟨g3, vs3, rfl, ho3, hy3⟩
  have hr3 := ho3.rd
  have hT := Below_then hT hy3
  clear ho3 hy3
  go_wp2_with fail
  refine (KI'.out _ _ _ (HIT.out.below hT) hr3).mono ?_
  rintro e y4 ⟨rfl, hy4⟩
  have hr4 := hr3.below hy4
  have hT := Below_then hT hy4
  clear hr3 hy4
  go_wp2_with fail
  refine (toIntSS_any A0 c0 z0 _ (u0.below hT) HS.out).mono ?_
  rintro e y5 ⟨g5, vs5, rfl, ho5, hy5⟩
  have hr5 := ho5.rd
  have hr6 := hr4.below hy5
  have hT := Below_then hT hy5
  clear ho5 hy5 hr4
  go_wp2_with fail
  refine (eqIntSS_same _ _ _ _ z0 _ hr6 hr5 HS.out).mono ?_
  rintro e y6 ⟨rfl, hy6⟩
  have hT := Below_then hT hy6
  clear hr5 hr6 hy6
  go_wp2
  go_ret
  exact ⟨rfl, hT⟩

/-! ### The row's step: written by a program of mine (frame.py) after the kit's shell -/
theorem laidOut : laidOutB Tryd.prog = true := by kernel_rfl
theorem door_met (os : Os) (args : Array Value) : laidMetH Tryd.prog Rows.fnExactRunTextRow.laid ((World.doorLaid Tryd.prog 400 os).forCall (fun _ _ => 0) ⟨#[], args, []⟩).memory :=
  laidMetH_of_parts3 (fuel := 8) (laidMet_of_run' 8 (by kernel_rfl) (by kernel_rfl)) (by kernel_rfl) (by kernel_rfl)
set_option maxRecDepth 100000 in
theorem lifted (os : Os) (started : os.Started) (H : Type) (enc : TypeId × Value → H) :
    ReturnsInHanded {} Tryd.checked os 3 .any (fun w args => (Rows.fnExactRunTextSpec.pre enc Tryd.prog Tryd.f3 [] false w args ∧ laidMetH Tryd.prog Rows.fnExactRunTextRow.laid w) ∧ sizedMet enc Tryd.prog Tryd.f3 (OpenSpec.ofChange Rows.fnExactRunTextSpec) false w args)
      (Rows.fnExactRunTextSpec.post enc Tryd.prog Tryd.f3 false true false false) := by
  refine returnsInHanded_of_change_and (C := Tryd.checked) (X := fun w _ => laidMetH Tryd.prog Rows.fnExactRunTextRow.laid w) (fun _ _ _ hh h => h.of_heap hh) own started (by kernel_rfl) Tryd.func3
    (ChangeSpec.witness_shaped (enc := enc) (C := Tryd.checked) (os := os) (X := fun w _ => laidMetH Tryd.prog Rows.fnExactRunTextRow.laid w) false (World.doorLaid Tryd.prog 400 os) #[.slice none 0 0] 8 rfl (World.shaped_of_RefB (by kernel_rfl) (by kernel_rfl)) (by kernel_rfl) (by kernel_rfl) (by kernel_rfl) (door_met os _)) ?_
  intro W base args ds gs before hval0 hW hcnd _ hL _
  try simp only [List.append_nil] at hW
  have hval : ∀ (j : Nat) t v, Tryd.f3.params[j]? = some t → args[j]? = some v → Value.okWide Tryd.prog W .any base t v := hval0
  have hW' := hW
  obtain ⟨p, q, hA0, hV, rfl, hfz, hnd⟩ := hW
  have hA : DataW.TrodAll enc Tryd.prog W 0 (fun _ => true) true Tryd.f3.params.toList args.toList ds p := hA0
  rw [Tryd.params3] at hA hval
  obtain ⟨v0, vs0, d0, ds0, p0, q0, hargs, rfl, rfl, h0, r0⟩ := trodAll_cons hA
  obtain ⟨rfl, rfl, rfl⟩ := trodAll_nil r0
  obtain rfl : args = #[v0] := by cases args; simp_all
  obtain ⟨rfl, rfl⟩ := trodVars_none hV
  have k0 := h0
  have lt0 : ∀ x ∈ p0, x.block < W.heap.size := by obtain ⟨m, hm⟩ := k0; exact DataW.trod_lt m _ _ _ hm
  obtain ⟨A0, c0, z0, rfl, u0, l0, w0⟩ := openGrid (hval 0 22 v0 rfl rfl) h0
  clear hA0 hval0
  have htab := tabHere hL
  refine (walk W A0 c0 z0 u0 l0 w0 htab).mono fun e W' ⟨he, bel⟩ => ?_
  subst he
  exact ⟨_, rfl, _, _, _, [], _, [], hW', trodAll_mk1 (shut_bool Tryd.underlying4 _), (trodAll_cons_mk (Below.trod laidOut (by kernel_rfl) (of_decide_eq_true (by kernel_rfl)) k0 bel lt0) trodAll_mk0), rfl, bel.frame _, fun h => by cases h⟩

theorem over : Rows.FnExactRunTextSaid :=
  OpenClaim.holds_of_wide 3 Tryd.f3 rfl rfl rfl rfl rfl rfl rfl ⟨rfl, rfl, rfl, rfl, rfl⟩ rfl rfl rfl rfl rfl (by kernel_rfl) Tryd.func3 (by kernel_rfl)
    (of_decide_eq_true (by kernel_rfl)) (by unfold Func.isWrapper; first | (rw [if_pos (by decide +kernel)]; kernel_rfl) | (rw [if_neg (by decide +kernel)]; exact ⟨rfl, rfl⟩))
    (fun os started H enc _ => lifted os started H enc)

theorem proved : Rows.FnExactRunTextCardSaid :=
  Claim7.holds_tied_plain_at .later [] Rows.fnExactRunTextCard.laidKinds true Rows.fnExactRunTextCard.stood.harness false
    over (fun _ h => by cases h) (by kernel_rfl) (fun _ h => by cases h) fnExactRunText_row_tie rfl ⟨rfl, rfl⟩ (by kernel_rfl) rfl
    (fun f fn hf hfn => by
      obtain rfl : f = 3 := Option.some.inj ((show Tryd.prog.funcNamed Rows.fnExactRunTextRow.func = some 3 by kernel_rfl).symm.trans hf) |>.symm
      obtain rfl : fn = Tryd.f3 := (Option.some.inj (Tryd.func3.symm.trans hfn)).symm
      exact ⟨by kernel_rfl, fun j t ht => by
        rw [Tryd.params3] at ht
        have hm : t ∈ ([22] : List TypeId) := by simpa using Array.mem_of_getElem? ht
        have hall : (([22] : List TypeId).all fun u => !Tryd.prog.wantsStandIn u) = true := by kernel_rfl
        exact (show Tryd.prog.wantsStandIn t = false by simpa using List.all_eq_true.1 hall t hm)⟩)
    (by kernel_rfl)
#print axioms proved

end Go.Proofs.YtedfopebkgbbnaaDoor.fnExactRunText
