/- FnExactFeaturesOf: for all arms FeaturesOf of the program returns what FeaturesOf of the reference returns, in memory of its own. No condition. -/
import Derived.Test.YthlemcoimoibmaaDoorRows
import Derived.Test.YthlemcoimoibmaaDoorFeat5
import Derived.Test.YthlemcoimoibmaaDoorRArms
import Derived.Test.YthlemcoimoibmaaDoorAOpen
import Derived.Test.YthlemcoimoibmaaDoorCards
import Derived.Test.YthlemcoimoibmaaDoorTie
import Derived.ProofKit
import Derived.LaidMore
import Derived.OpenShut
import Derived.Stop.Joined
import Derived.SevenTiedAt
namespace Go.Proofs.YthlemcoimoibmaaDoor.fnExactFeaturesOf
open Go.ChangeShapes Go.WideShapes Go.ChangeAt Go.RowKit
set_option linter.unusedVariables false

theorem eqSt {A A' : Option Addr} {c c' B B' : Nat} (xs : List ByteArray) (w : World) (h1 : OwnS w B 9 (.slice A xs.length c) xs) (h2 : OwnS w B' 9 (.slice A' xs.length c') xs) (hx : xs.length ≤ 1048576) :
    Calls Tryd.prog 11 #[.slice A xs.length c, .slice A' xs.length c'] w fun e w' => e = .returned (.bool true) ∧ Below w.heap.size w w' := by
  obtain ⟨A1, c1, e1, r1⟩ := h1.form
  obtain ⟨A2, c2, e2, r2⟩ := h2.form
  injection e1 with e1 _ e1'
  injection e2 with e2 _ e2'
  subst e1 e1' e2 e2'
  exact (eqStringS_any _ _ _ _ xs xs w r1 r2 (by omega) (by omega)).mono fun _ _ ⟨he, hw⟩ => ⟨by rw [he]; simp, hw⟩
theorem heldSt {A : Option Addr} {c B n : Nat} (w : World) (h : OwnS w B 9 (.slice A n c) (mtS 1 n)) (hx : n ≤ 1048576) :
    Calls Tryd.prog 13 #[.slice A n c, .int .i64 1] w fun e w' => e = .returned (.int .i64 (1 + n)) ∧ Below w.heap.size w w' := by
  obtain ⟨A1, c1, e1, r1⟩ := h.form
  rw [mtS_len] at e1
  injection e1 with e1 _ e1'
  subst e1 e1'
  exact heldStringS_marks A c n 1 w r1 hx (by omega) (by omega)
section
variable {ops : Array Oper} {rest : List Oper} {op : Oper} {a : Act} {w : World} {Q : Exit → Act → World → Prop}
theorem ldAL (hgd : op.guard = none) (x : Operand) (ho : op.op = .load 28 x) (b o : Nat) (hx : a.eval x = .pointer (some ⟨b, o, none⟩)) (ad : ArmsD) (hc : w.rangeAt b o (ac ad))
    (h : wpList Tryd.prog ops Q rest (a.put op.dst (.agg (ac ad).toArray)) w) : wpList Tryd.prog ops Q (op :: rest) a w :=
  wpList_load_mid hgd _ x ho b o hx (ac ad) _ hc Tryd.underlying28 rfl (info_acL ad) h
end
theorem rngL {w : World} {b : Nat} {a : ArmsD} (h : w.heap[b]? = some (.cells (ac a).toArray 28 (0, 0))) : w.rangeAt b 0 (ac a) := fun j v hv => by
  rw [cell_of h, Nat.zero_add, List.getElem?_toArray]
  exact hv
set_option maxHeartbeats 4000000 in
theorem walk (a : ArmsD) (wa : ∀ z ∈ [a.d, a.l, a.p, a.q, a.o, a.li, a.t, a.c1, a.k1, a.a1, a.t1, a.c2, a.k2, a.a2, a.t2], (Lit.int .i64 z).wf = true) (w : World) :
    Calls Tryd.prog 4 #[.agg (ac a).toArray] w fun e w' => e = .returned (.bool true) ∧ Below w.heap.size w w' := by
  clear wa
  have hF : (w.alloc (.cells (ac a).toArray 28)).heap[w.heap.size]? = some (.cells (ac a).toArray 28 (0, 0)) := heap_hit _ _ _ rfl
  have hT : Below w.heap.size w (w.alloc (.cells (ac a).toArray 28)) := Below_al (Below.refl _ _) _
  obtain ⟨zs, ok, hzl, KS, KI⟩ : ∃ (zs : List ByteArray) (ok : Bool), zs.length ≤ 1000 ∧ (∀ (w : World), Calls Tryd.prog 8 #[.agg (ac a).toArray] w (StrsOk w zs ok)) ∧ (∀ (w : World), Calls Tryd.prog 10 #[.agg (ac a).toArray] w (StrsOk w zs ok)) :=
    ⟨fOf a, armsOk a, by have := fOf_len a; omega, fun w => specFeaturesOf_any a w, fun w => implFeaturesOf_any a w⟩
  have KS' := Lib.hid KS
  have KI' := Lib.hid KI
  have hM : ¬ (1 + (zs.length : Int) < 0) := by omega
  clear KS KI
  cases ok
  all_goals
    have hF := hF
    have hR := rngL hF
    have HT := Lib.hid hT
    have HFI := Lib.hid hF
    clear hT hF
    go_enter Tryd.func4, Tryd.ntmps4
    go_wp2_with (first | (refine ldAL rfl _ rfl _ _ rfl _ hR ?_) | fail)
    refine (toArmsC a _).mono ?_
    rintro e y1 ⟨rfl, hb⟩
    have hT := Below_then HT.out hb
    have hF := heap_keepB HFI.out hb
    clear hR hb HT HFI
    go_wp2_with fail
    refine (KS'.out _).mono ?_
    rintro e y2 ⟨vW, rfl, hoW, hb⟩
    have hT := Below_then hT hb
    have hF := heap_keepB hF hb
    have hR := rngL hF
    obtain ⟨sA, sc, rfl, -⟩ := hoW.form
    clear hb
    go_wp2_with (first | (refine ldAL rfl _ rfl _ _ rfl _ hR ?_) | fail)
    refine (toArmsC a _).mono ?_
    rintro e y3 ⟨rfl, hb⟩
    have hT := Below_then hT hb
    have hF := heap_keepB hF hb
    have hoW := hoW.below hb
    clear hR hb
    go_wp2_with fail
    refine (KI'.out _).mono ?_
    rintro e y4 ⟨gv, rfl, hoG, hb⟩
    have hap := hoW.apart hoG (Nat.le_refl _)
    have hGF : gv.ownBlock ≠ some w.heap.size := fun e => by have := (hoG.lt _ e).1; have := heap_lt hF; omega
    have htop : ∀ k, gv.ownBlock = some k → w.heap.size ≤ k := fun k hk => by have := (hoG.lt k hk).1; have := hT.size; omega
    have hT := Below_then hT hb
    have hF := heap_keepB hF hb
    have hoW := hoW.below hb
    obtain ⟨gA, gc, rfl, -⟩ := hoG.form
    have HAP := Lib.hid hap
    have HGF := Lib.hid hGF
    have HTOP := Lib.hid htop
    clear hb hap hGF htop
    go_wp2_with fail
    refine (eqSt zs _ hoG hoW (by omega)).mono ?_
    rintro e y5 ⟨rfl, hb⟩
    have hT := Below_then hT hb
    have hF := heap_keepB hF hb
    have hoW := hoW.below hb
    have hoG := hoG.below hb
    clear hb
    go_wp2_with fail
    refine (markStringS_any _ _ zs 1 _ hoG (by omega) (by omega) (by omega)).mono ?_
    rintro e y6 ⟨rfl, hmG, hg⟩
    have hT := hT.grown hg hT.size HTOP.out
    have hF := heap_keepG hF hg HGF.out
    have hoW := hoW.other hg HAP.out
    clear hg hoG
    go_wp2_with fail
    refine (heldSt _ hmG (by omega)).mono ?_
    rintro e y7 ⟨rfl, hb⟩
    have hT := Below_then hT hb
    have hF := heap_keepB hF hb
    have hoW := hoW.below hb
    have hmG := hmG.below hb
    have hR := rngL hF
    clear hb
    go_wp2_with (first | (refine ldAL rfl _ rfl _ _ rfl _ hR ?_) | fail)
    refine (toArmsC a _).mono ?_
    rintro e y8 ⟨rfl, hb⟩
    have hT := Below_then hT hb
    have hoW := hoW.below hb
    have hmG := hmG.below hb
    clear hR hb hF
    go_wp2_with fail
    refine (KI'.out _).mono ?_
    rintro e y9 ⟨hv, rfl, hoH, hb⟩
    have hT := Below_then hT hb
    have hoW := hoW.below hb
    have hmG := hmG.below hb
    obtain ⟨hA, hc, rfl, -⟩ := hoH.form
    clear hb
    go_wp2_with fail
    refine (eqSt zs _ hoH hoW (by omega)).mono ?_
    rintro e ya ⟨rfl, hb⟩
    have hT := Below_then hT hb
    have hmG := hmG.below hb
    clear hb hoH hoW
    go_wp2_with fail
    refine (heldSt _ hmG (by omega)).mono ?_
    rintro e yb ⟨rfl, hb⟩
    have hT := Below_then hT hb
    clear hb hmG
    go_wp2
    go_ret
    exact ⟨rfl, hT⟩

/-! ### The row's step: written by a program of mine (frame.py) after the kit's shell -/
theorem laidOut : laidOutB Tryd.prog = true := by kernel_rfl
theorem door_met (os : Os) (args : Array Value) : laidMetH Tryd.prog Rows.fnExactFeaturesOfRow.laid ((World.doorLaid Tryd.prog 400 os).forCall (fun _ _ => 0) ⟨#[], args, []⟩).memory :=
  laidMetH_of_parts3 (fuel := 8) (laidMet_of_run' 8 (by kernel_rfl) (by kernel_rfl)) (by kernel_rfl) (by kernel_rfl)
set_option maxRecDepth 100000 in
theorem lifted (os : Os) (started : os.Started) (H : Type) (enc : TypeId × Value → H) :
    ReturnsInHanded {} Tryd.checked os 4 .any (fun w args => (Rows.fnExactFeaturesOfSpec.pre enc Tryd.prog Tryd.f4 [] false w args ∧ laidMetH Tryd.prog Rows.fnExactFeaturesOfRow.laid w) ∧ sizedMet enc Tryd.prog Tryd.f4 (OpenSpec.ofChange Rows.fnExactFeaturesOfSpec) false w args)
      (Rows.fnExactFeaturesOfSpec.post enc Tryd.prog Tryd.f4 false true false false) := by
  refine returnsInHanded_of_change_and (C := Tryd.checked) (X := fun w _ => laidMetH Tryd.prog Rows.fnExactFeaturesOfRow.laid w) (fun _ _ _ hh h => h.of_heap hh) own started (by kernel_rfl) Tryd.func4
    (ChangeSpec.witness_shaped (enc := enc) (C := Tryd.checked) (os := os) (X := fun w _ => laidMetH Tryd.prog Rows.fnExactFeaturesOfRow.laid w) false (World.doorLaid Tryd.prog 400 os) #[.agg #[.int .i64 0, .int .i64 0, .int .i64 0, .int .i64 0, .int .i64 0, .int .i64 0, .int .i64 0, .int .i64 0, .int .i64 0, .int .i64 0, .int .i64 0, .int .i64 0, .int .i64 0, .int .i64 0, .int .i64 0]] 8 rfl (World.shaped_of_RefB (by kernel_rfl) (by kernel_rfl)) (by kernel_rfl) (by kernel_rfl) (by kernel_rfl) (door_met os _)) ?_
  intro W base args ds gs before hval0 hW hcnd _ hL _
  try simp only [List.append_nil] at hW
  have hval : ∀ (j : Nat) t v, Tryd.f4.params[j]? = some t → args[j]? = some v → Value.okWide Tryd.prog W .any base t v := hval0
  have hW' := hW
  obtain ⟨p, q, hA0, hV, rfl, hfz, hnd⟩ := hW
  have hA : DataW.TrodAll enc Tryd.prog W 0 (fun _ => true) true Tryd.f4.params.toList args.toList ds p := hA0
  rw [Tryd.params4] at hA hval
  obtain ⟨v0, vs0, d0, ds0, p0, q0, hargs, rfl, rfl, h0, r0⟩ := trodAll_cons hA
  obtain ⟨rfl, rfl, rfl⟩ := trodAll_nil r0
  obtain rfl : args = #[v0] := by cases args; simp_all
  obtain ⟨rfl, rfl⟩ := trodVars_none hV
  have k0 := h0
  have lt0 : ∀ x ∈ p0, x.block < W.heap.size := by obtain ⟨m, hm⟩ := k0; exact DataW.trod_lt m _ _ _ hm
  obtain ⟨a0, rfl, w0⟩ := openArms (hval 0 28 v0 rfl rfl) h0
  clear hA0 hval0
  refine (walk a0 w0 W).mono fun e W' ⟨he, bel⟩ => ?_
  subst he
  exact ⟨_, rfl, _, _, _, [], _, [], hW', trodAll_mk1 (shut_bool Tryd.underlying4 _), (trodAll_cons_mk (Below.trod laidOut (by kernel_rfl) (of_decide_eq_true (by kernel_rfl)) k0 bel lt0) trodAll_mk0), rfl, bel.frame _, fun h => by cases h⟩

theorem over : Rows.FnExactFeaturesOfSaid :=
  OpenClaim.holds_of_wide 4 Tryd.f4 rfl rfl rfl rfl rfl rfl rfl ⟨rfl, rfl, rfl, rfl, rfl⟩ rfl rfl rfl rfl rfl (by kernel_rfl) Tryd.func4 (by kernel_rfl)
    (of_decide_eq_true (by kernel_rfl)) (by unfold Func.isWrapper; first | (rw [if_pos (by decide +kernel)]; kernel_rfl) | (rw [if_neg (by decide +kernel)]; exact ⟨rfl, rfl⟩))
    (fun os started H enc _ => lifted os started H enc)

theorem proved : Rows.FnExactFeaturesOfCardSaid :=
  Claim7.holds_tied_plain_at .later [] Rows.fnExactFeaturesOfCard.laidKinds true Rows.fnExactFeaturesOfCard.stood.harness false
    over (fun _ h => by cases h) (by kernel_rfl) (fun _ h => by cases h) fnExactFeaturesOf_row_tie rfl ⟨rfl, rfl⟩ (by kernel_rfl) rfl
    (fun f fn hf hfn => by
      obtain rfl : f = 4 := Option.some.inj ((show Tryd.prog.funcNamed Rows.fnExactFeaturesOfRow.func = some 4 by kernel_rfl).symm.trans hf) |>.symm
      obtain rfl : fn = Tryd.f4 := (Option.some.inj (Tryd.func4.symm.trans hfn)).symm
      exact ⟨by kernel_rfl, fun j t ht => by
        rw [Tryd.params4] at ht
        have hm : t ∈ ([28] : List TypeId) := by simpa using Array.mem_of_getElem? ht
        have hall : (([28] : List TypeId).all fun u => !Tryd.prog.wantsStandIn u) = true := by kernel_rfl
        exact (show Tryd.prog.wantsStandIn t = false by simpa using List.all_eq_true.1 hall t hm)⟩)
    (by kernel_rfl)
#print axioms proved

end Go.Proofs.YthlemcoimoibmaaDoor.fnExactFeaturesOf
