/- FnExactMissingFeatures: for all arguments MissingFeatures of the program returns what MissingFeatures of the reference returns, leaves its arguments as they are, in memory of its own. No condition. -/
import Derived.Test.YthlemcoimoibmaaDoorRows
import Derived.Test.YthlemcoimoibmaaDoorMiss
import Derived.Test.YthlemcoimoibmaaDoorStrs3
import Derived.Test.YthlemcoimoibmaaDoorRArms
import Derived.Test.YthlemcoimoibmaaDoorAOpen
import Derived.Test.YthlemcoimoibmaaDoorCards
import Derived.Test.YthlemcoimoibmaaDoorTie
import Derived.ProofKit
import Derived.LaidMore
import Derived.OpenShut
import Derived.Stop.Joined
import Derived.SevenTiedAt
namespace Go.Proofs.YthlemcoimoibmaaDoor.fnExactMissingFeatures
open Go.ChangeShapes Go.WideShapes Go.ChangeAt Go.RowKit
set_option linter.unusedVariables false

theorem eqSt {A A' : Option Addr} {c c' B B' : Nat} (xs : List ByteArray) (w : World) (h1 : OwnS w B 9 (.slice A xs.length c) xs) (h2 : OwnS w B' 9 (.slice A' xs.length c') xs) (hx : xs.length ≤ 1048576) :
    Calls Tryd.prog 11 #[.slice A xs.length c, .slice A' xs.length c'] w fun e w' => e = .returned (.bool true) ∧ Below w.heap.size w w' := by
  obtain ⟨A1, c1, e1, r1⟩ := h1.form
  obtain ⟨A2, c2, e2, r2⟩ := h2.form
  injection e1 with e1 _ e1'
  injection e2 with e2 _ e2'
  subst e1 e1' e2 e2'
  exact (eqStringS_any _ _ _ _ xs xs w r1 r2 (by omega) (by omega)).mono fun _ _ ⟨he, hw⟩ => ⟨by rw [he]; simp, hw⟩
theorem heldSt {A : Option Addr} {c B n : Nat} (w : World) (h : OwnS w B 9 (.slice A n c) (mtS 1 n)) (hx : n ≤ 1048576) :
    Calls Tryd.prog 13 #[.slice A n c, .int .i64 1] w fun e w' => e = .returned (.int .i64 (1 + n)) ∧ Below w.heap.size w w' := by
  obtain ⟨A1, c1, e1, r1⟩ := h.form
  rw [mtS_len] at e1
  injection e1 with e1 _ e1'
  subst e1 e1'
  exact heldStringS_marks A c n 1 w r1 hx (by omega) (by omega)
section
variable {ops : Array Oper} {rest : List Oper} {op : Oper} {a : Act} {w : World} {Q : Exit → Act → World → Prop}
theorem ldAL (hgd : op.guard = none) (x : Operand) (ho : op.op = .load 28 x) (b o : Nat) (hx : a.eval x = .pointer (some ⟨b, o, none⟩)) (ad : ArmsD) (hc : w.rangeAt b o (ac ad))
    (h : wpList Tryd.prog ops Q rest (a.put op.dst (.agg (ac ad).toArray)) w) : wpList Tryd.prog ops Q (op :: rest) a w :=
  wpList_load_mid hgd _ x ho b o hx (ac ad) _ hc Tryd.underlying28 rfl (info_acL ad) h
end
theorem rngL {w : World} {b : Nat} {a : ArmsD} (h : w.heap[b]? = some (.cells (ac a).toArray 28 (0, 0))) : w.rangeAt b 0 (ac a) := fun j v hv => by
  rw [cell_of h, Nat.zero_add, List.getElem?_toArray]
  exact hv
theorem rdOf {A : Option Addr} {n c B : Nat} {T : TypeId} {zs : List ByteArray} {w : World} (h : OwnS w B T (.slice A n c) zs) : RdS w A zs := by
  obtain ⟨A', c', e, hr⟩ := h.form
  injection e with e
  subst e
  exact hr
set_option maxHeartbeats 4000000 in
theorem walk (w : World) (a : ArmsD) (wa : ∀ z ∈ [a.d, a.l, a.p, a.q, a.o, a.li, a.t, a.c1, a.k1, a.a1, a.t1, a.c2, a.k2, a.a2, a.t2], (Lit.int .i64 z).wf = true)
    (A1 : Option Addr) (c1 : Nat) (z1 : List ByteArray) (u1 : RdS w A1 z1) (l1 : z1.length ≤ maxLen) (m1 : ∀ s ∈ z1, s.size ≤ maxLen) :
    Calls Tryd.prog 5 #[.agg (ac a).toArray, .slice A1 z1.length c1] w fun e w' => e = .returned (.bool true) ∧ Below w.heap.size w w' := by
  clear wa
  go_enter Tryd.func5, Tryd.ntmps5
  go_wp2_with fail
  refine (szStringS_any A1 c1 z1 1048576 _ (u1.alloc _) (by omega) l1 m1).mono ?_
  rintro e y0 ⟨rfl, hy0⟩
  have hF : y0.heap[w.heap.size]? = some (.cells (ac a).toArray 28 (0, 0)) := heap_keepB (heap_hit _ _ _ rfl) hy0
  have hT : Below w.heap.size w y0 := Below_then (Below_al (Below.refl _ _) _) hy0
  clear hy0
  by_cases hs : (z1.length : Int) + lens z1 ≤ 1048576
  · have hr0 : ¬ szS z1 1048576 < 0 := by unfold szS; rw [if_pos hs]; omega
    generalize szS z1 1048576 = r at hr0 ⊢
    have hzl : z1.length ≤ 1048576 := by omega
    obtain ⟨zs, ok, hzs, KS, KI⟩ : ∃ (zs : List ByteArray) (ok : Bool), zs.length ≤ 1048576 ∧ (∀ (A : Option Addr) (c : Nat) (w : World), RdS w A z1 → Calls Tryd.prog 15 #[.agg (ac a).toArray, .slice A z1.length c] w (StrsOk w zs ok)) ∧ (∀ (A : Option Addr) (c : Nat) (w : World), RdS w A z1 → Calls Tryd.prog 17 #[.agg (ac a).toArray, .slice A z1.length c] w (StrsOk w zs ok)) :=
      ⟨mOf a z1, mOk a z1, Nat.le_trans (mOf_len a z1) hzl, fun A c w h => specMissing_any a A c z1 w h hzl m1, fun A c w h => implMissing_any a A c z1 w h hzl m1⟩
    have KS' := Lib.hid KS
    have KI' := Lib.hid KI
    have hM : ¬ (1 + (zs.length : Int) < 0) := by omega
    have hM2 : ¬ (1 + (z1.length : Int) < 0) := by omega
    clear KS KI hs l1 m1
    cases ok
    all_goals
      have hR := rngL hF
      go_wp2_with (first | (refine ldAL rfl _ rfl _ _ rfl _ hR ?_) | fail)
      clear hR
      refine (toArmsC a _).mono ?_
      rintro e y1 ⟨rfl, hb⟩
      have hT := Below_then hT hb
      have hF := heap_keepB hF hb
      clear hb
      go_wp2_with fail
      refine (toStringS_any A1 c1 z1 _ (u1.below hT) hzl).mono ?_
      rintro e y2 ⟨g2, rfl, ho2, hb⟩
      have hT := Below_then hT hb
      have hF := heap_keepB hF hb
      clear hb
      go_wp2_with fail
      refine (KS'.out _ _ _ (rdOf ho2)).mono ?_
      rintro e y3 ⟨vW, rfl, hoW, hb⟩
      have hT := Below_then hT hb
      have hF := heap_keepB hF hb
      obtain ⟨sA, sc, rfl, -⟩ := hoW.form
      clear ho2
      clear hb
      go_wp2_with fail
      refine (toStringS_any A1 c1 z1 _ (u1.below hT) hzl).mono ?_
      rintro e y4 ⟨g4, rfl, hoX, hb⟩
      have HWX := Lib.hid (hoW.apart hoX (Nat.le_refl _))
      have hxf := (hoX.lt g4 rfl).1
      have hfl := heap_lt hF
      have HXF := Lib.hid (show g4 ≠ w.heap.size by omega)
      have hsz := hT.size
      have HXT := Lib.hid (show w.heap.size ≤ g4 by omega)
      clear hxf hfl hsz
      have hT := Below_then hT hb
      have hF := heap_keepB hF hb
      have hoW := hoW.below hb
      clear hb
      have hR := rngL hF
      go_wp2_with (first | (refine ldAL rfl _ rfl _ _ rfl _ hR ?_) | fail)
      clear hR
      refine (toArmsC a _).mono ?_
      rintro e y5 ⟨rfl, hb⟩
      have hT := Below_then hT hb
      have hF := heap_keepB hF hb
      have hoW := hoW.below hb
      have hoX := hoX.below hb
      clear hb
      go_wp2_with fail
      refine (KI'.out _ _ _ (rdOf hoX)).mono ?_
      rintro e y6 ⟨gv, rfl, hoG, hb⟩
      have HWG := Lib.hid (hoW.apart hoG (Nat.le_refl _))
      have HGX := Lib.hid (show gv.ownBlock = none ∨ gv.ownBlock ≠ some g4 from .inr fun e => by have := (hoG.lt _ e).1; have := (hoX.lt g4 rfl).2; omega)
      have HGF := Lib.hid (show gv.ownBlock ≠ some w.heap.size from fun e => by have := (hoG.lt _ e).1; have := heap_lt hF; omega)
      have HGT := Lib.hid (show ∀ k, gv.ownBlock = some k → w.heap.size ≤ k from fun k hk => by have := (hoG.lt k hk).1; have := hT.size; omega)
      have hT := Below_then hT hb
      have hF := heap_keepB hF hb
      have hoW := hoW.below hb
      have hoX := hoX.below hb
      obtain ⟨gA, gc, rfl, -⟩ := hoG.form
      clear hb
      go_wp2_with fail
      refine (eqSt zs _ hoG hoW (by omega)).mono ?_
      rintro e y7 ⟨rfl, hb⟩
      have hT := Below_then hT hb
      have hF := heap_keepB hF hb
      have hoW := hoW.below hb
      have hoX := hoX.below hb
      have hoG := hoG.below hb
      clear hb
      go_wp2_with fail
      refine (toStringS_any A1 c1 z1 _ (u1.below hT) hzl).mono ?_
      rintro e y8 ⟨g8, rfl, ho8, hb⟩
      have hT := Below_then hT hb
      have hF := heap_keepB hF hb
      have hoW := hoW.below hb
      have hoX := hoX.below hb
      have hoG := hoG.below hb
      clear hb
      go_wp2_with fail
      refine (eqSt z1 _ hoX ho8 hzl).mono ?_
      rintro e y9 ⟨rfl, hb⟩
      have hT := Below_then hT hb
      have hF := heap_keepB hF hb
      have hoW := hoW.below hb
      have hoX := hoX.below hb
      have hoG := hoG.below hb
      clear ho8
      clear hb
      go_wp2_with fail
      refine (markStringS_any _ _ z1 1 _ hoX hzl (by omega) (by omega)).mono ?_
      rintro e y10 ⟨rfl, -, hg⟩
      have hT := hT.grown hg hT.size (fun k hk => by have e : some g4 = some k := hk; injection e with e; have := HXT.out; omega)
      have hF := heap_keepG hF hg (fun e => by injection e with e; exact HXF.out e)
      have hoW := hoW.other hg HWX.out
      have hoG := hoG.other hg HGX.out
      clear hg hoX
      go_wp2_with fail
      refine (eqSt zs _ hoG hoW (by omega)).mono ?_
      rintro e y11 ⟨rfl, hb⟩
      have hT := Below_then hT hb
      have hF := heap_keepB hF hb
      have hoW := hoW.below hb
      have hoG := hoG.below hb
      clear hb
      go_wp2_with fail
      refine (markStringS_any _ _ zs 1 _ hoG (by omega) (by omega) (by omega)).mono ?_
      rintro e y12 ⟨rfl, hmG, hg⟩
      have hT := hT.grown hg hT.size HGT.out
      have hF := heap_keepG hF hg HGF.out
      have hoW := hoW.other hg HWG.out
      clear hg hoG
      go_wp2_with fail
      refine (heldSt _ hmG (by omega)).mono ?_
      rintro e y13 ⟨rfl, hb⟩
      have hT := Below_then hT hb
      have hF := heap_keepB hF hb
      have hoW := hoW.below hb
      have hmG := hmG.below hb
      clear hb
      have hR := rngL hF
      go_wp2_with (first | (refine ldAL rfl _ rfl _ _ rfl _ hR ?_) | fail)
      clear hR
      refine (toArmsC a _).mono ?_
      rintro e y14 ⟨rfl, hb⟩
      have hT := Below_then hT hb
      have hF := heap_keepB hF hb
      have hoW := hoW.below hb
      have hmG := hmG.below hb
      clear hb
      go_wp2_with fail
      refine (toStringS_any A1 c1 z1 _ (u1.below hT) hzl).mono ?_
      rintro e y15 ⟨g15, rfl, ho15, hb⟩
      have hT := Below_then hT hb
      have hoW := hoW.below hb
      have hmG := hmG.below hb
      clear hF
      clear hb
      go_wp2_with fail
      refine (KI'.out _ _ _ (rdOf ho15)).mono ?_
      rintro e y16 ⟨hv, rfl, hoH, hb⟩
      have hT := Below_then hT hb
      have hoW := hoW.below hb
      have hmG := hmG.below hb
      obtain ⟨hA, hc, rfl, -⟩ := hoH.form
      clear ho15
      clear hb
      go_wp2_with fail
      refine (eqSt zs _ hoH hoW (by omega)).mono ?_
      rintro e y17 ⟨rfl, hb⟩
      have hT := Below_then hT hb
      have hmG := hmG.below hb
      clear hoH hoW
      clear hb
      go_wp2_with fail
      refine (heldSt _ hmG (by omega)).mono ?_
      rintro e y18 ⟨rfl, hb⟩
      have hT := Below_then hT hb
      clear hmG
      clear hb
      go_wp2
      go_ret
      exact ⟨rfl, hT⟩
  · rw [show szS z1 1048576 = -1 from if_neg hs]
    go_wp2
    go_ret
    exact ⟨rfl, hT⟩

/-! ### The row's step: written by a program of mine (frame.py) after the kit's shell -/
theorem laidOut : laidOutB Tryd.prog = true := by kernel_rfl
theorem door_met (os : Os) (args : Array Value) : laidMetH Tryd.prog Rows.fnExactMissingFeaturesRow.laid ((World.doorLaid Tryd.prog 400 os).forCall (fun _ _ => 0) ⟨#[], args, []⟩).memory :=
  laidMetH_of_parts3 (fuel := 8) (laidMet_of_run' 8 (by kernel_rfl) (by kernel_rfl)) (by kernel_rfl) (by kernel_rfl)
set_option maxRecDepth 100000 in
theorem lifted (os : Os) (started : os.Started) (H : Type) (enc : TypeId × Value → H) :
    ReturnsInHanded {} Tryd.checked os 5 .any (fun w args => (Rows.fnExactMissingFeaturesSpec.pre enc Tryd.prog Tryd.f5 [] false w args ∧ laidMetH Tryd.prog Rows.fnExactMissingFeaturesRow.laid w) ∧ sizedMet enc Tryd.prog Tryd.f5 (OpenSpec.ofChange Rows.fnExactMissingFeaturesSpec) false w args)
      (Rows.fnExactMissingFeaturesSpec.post enc Tryd.prog Tryd.f5 false true false false) := by
  refine returnsInHanded_of_change_and (C := Tryd.checked) (X := fun w _ => laidMetH Tryd.prog Rows.fnExactMissingFeaturesRow.laid w) (fun _ _ _ hh h => h.of_heap hh) own started (by kernel_rfl) Tryd.func5
    (ChangeSpec.witness_shaped (enc := enc) (C := Tryd.checked) (os := os) (X := fun w _ => laidMetH Tryd.prog Rows.fnExactMissingFeaturesRow.laid w) false (World.doorLaid Tryd.prog 400 os) #[.agg #[.int .i64 0, .int .i64 0, .int .i64 0, .int .i64 0, .int .i64 0, .int .i64 0, .int .i64 0, .int .i64 0, .int .i64 0, .int .i64 0, .int .i64 0, .int .i64 0, .int .i64 0, .int .i64 0, .int .i64 0], .slice none 0 0] 8 rfl (World.shaped_of_RefB (by kernel_rfl) (by kernel_rfl)) (by kernel_rfl) (by kernel_rfl) (by kernel_rfl) (door_met os _)) ?_
  intro W base args ds gs before hval0 hW hcnd _ hL _
  try simp only [List.append_nil] at hW
  have hval : ∀ (j : Nat) t v, Tryd.f5.params[j]? = some t → args[j]? = some v → Value.okWide Tryd.prog W .any base t v := hval0
  have hW' := hW
  obtain ⟨p, q, hA0, hV, rfl, hfz, hnd⟩ := hW
  have hA : DataW.TrodAll enc Tryd.prog W 0 (fun _ => true) true Tryd.f5.params.toList args.toList ds p := hA0
  rw [Tryd.params5] at hA hval
  obtain ⟨v0, vs0, d0, ds0, p0, q0, hargs, rfl, rfl, h0, r0⟩ := trodAll_cons hA
  obtain ⟨v1, vs1, d1, ds1, p1, q1, rfl, rfl, rfl, h1, r1⟩ := trodAll_cons r0
  obtain ⟨rfl, rfl, rfl⟩ := trodAll_nil r1
  obtain rfl : args = #[v0, v1] := by cases args; simp_all
  obtain ⟨rfl, rfl⟩ := trodVars_none hV
  have k0 := h0
  have lt0 : ∀ x ∈ p0, x.block < W.heap.size := by obtain ⟨m, hm⟩ := k0; exact DataW.trod_lt m _ _ _ hm
  obtain ⟨a0, rfl, w0⟩ := openArms (hval 0 28 v0 rfl rfl) h0
  have k1 := h1
  have lt1 : ∀ x ∈ p1, x.block < W.heap.size := by obtain ⟨m, hm⟩ := k1; exact DataW.trod_lt m _ _ _ hm
  obtain ⟨A1, c1, z1, rfl, u1, l1, w1⟩ := openStrings (hval 1 29 v1 rfl rfl) h1
  clear hA0 hval0
  refine (walk W a0 w0 A1 c1 z1 u1 l1 w1).mono fun e W' ⟨he, bel⟩ => ?_
  subst he
  exact ⟨_, rfl, _, _, _, [], _, [], hW', trodAll_mk1 (shut_bool Tryd.underlying4 _), (trodAll_cons_mk (Below.trod laidOut (by kernel_rfl) (of_decide_eq_true (by kernel_rfl)) k0 bel lt0) (trodAll_cons_mk (Below.trod laidOut (by kernel_rfl) (of_decide_eq_true (by kernel_rfl)) k1 bel lt1) trodAll_mk0)), rfl, bel.frame _, fun h => by cases h⟩

theorem over : Rows.FnExactMissingFeaturesSaid :=
  OpenClaim.holds_of_wide 5 Tryd.f5 rfl rfl rfl rfl rfl rfl rfl ⟨rfl, rfl, rfl, rfl, rfl⟩ rfl rfl rfl rfl rfl (by kernel_rfl) Tryd.func5 (by kernel_rfl)
    (of_decide_eq_true (by kernel_rfl)) (by unfold Func.isWrapper; first | (rw [if_pos (by decide +kernel)]; kernel_rfl) | (rw [if_neg (by decide +kernel)]; exact ⟨rfl, rfl⟩))
    (fun os started H enc _ => lifted os started H enc)

theorem proved : Rows.FnExactMissingFeaturesCardSaid :=
  Claim7.holds_tied_plain_at .later [] Rows.fnExactMissingFeaturesCard.laidKinds true Rows.fnExactMissingFeaturesCard.stood.harness false
    over (fun _ h => by cases h) (by kernel_rfl) (fun _ h => by cases h) fnExactMissingFeatures_row_tie rfl ⟨rfl, rfl⟩ (by kernel_rfl) rfl
    (fun f fn hf hfn => by
      obtain rfl : f = 5 := Option.some.inj ((show Tryd.prog.funcNamed Rows.fnExactMissingFeaturesRow.func = some 5 by kernel_rfl).symm.trans hf) |>.symm
      obtain rfl : fn = Tryd.f5 := (Option.some.inj (Tryd.func5.symm.trans hfn)).symm
      exact ⟨by kernel_rfl, fun j t ht => by
        rw [Tryd.params5] at ht
        have hm : t ∈ ([28, 29] : List TypeId) := by simpa using Array.mem_of_getElem? ht
        have hall : (([28, 29] : List TypeId).all fun u => !Tryd.prog.wantsStandIn u) = true := by kernel_rfl
        exact (show Tryd.prog.wantsStandIn t = false by simpa using List.all_eq_true.1 hall t hm)⟩)
    (by kernel_rfl)
#print axioms proved

end Go.Proofs.YthlemcoimoibmaaDoor.fnExactMissingFeatures
