/- FnExactFreeTinctures: for all arguments FreeTinctures of the program returns what FreeTinctures of the reference returns. No condition. -/
import Derived.Test.YtpboheaiigbfbaaRows
import Derived.Test.YtpboheaiigbfbaaFree2
import Derived.Test.YtpboheaiigbfbaaRAOpen
namespace Go.Proofs.Ytpboheaiigbfbaa.fnExactFreeTinctures
open Go.ChangeShapes Go.WideShapes Go.ChangeAt Go.RowKit
set_option linter.unusedVariables false

theorem heldR1 {a w w' : World} {b o : Nat} {u : List Value} (h : w.rangeAt b o u ∧ Below a.heap.size a w) (hb : Below w.heap.size w w') : w'.rangeAt b o u ∧ Below a.heap.size a w' := ⟨rangeAt_below h.1 hb, Below_then h.2 hb⟩
section
variable {ops : Array Oper} {rest : List Oper} {op : Oper} {a : Act} {w : World} {Q : Exit → Act → World → Prop}
theorem ldAL (hgd : op.guard = none) (x : Operand) (ho : op.op = .load 27 x) (b o : Nat) (hx : a.eval x = .pointer (some ⟨b, o, none⟩)) (ad : ArmsD) (hc : w.rangeAt b o (ac ad))
    (h : wpList Try.prog ops Q rest (a.put op.dst (.agg (ac ad).toArray)) w) : wpList Try.prog ops Q (op :: rest) a w :=
  wpList_load_mid hgd _ x ho b o hx (ac ad) _ hc Try.underlying27 rfl (info_acL ad) h
end
theorem eqI {A A' : Option Addr} {c c' B B' : Nat} (xs : List Int) (w : World) (h1 : OwnI w B 3 (.slice A xs.length c) xs) (h2 : OwnI w B' 3 (.slice A' xs.length c') xs) (hx : xs.length ≤ 1048576) :
    Calls Try.prog 13 #[.slice A xs.length c, .slice A' xs.length c'] w fun e w' => e = .returned (.bool true) ∧ Below w.heap.size w w' := by
  obtain ⟨A1, c1, e1, r1⟩ := h1.form
  obtain ⟨A2, c2, e2, r2⟩ := h2.form
  injection e1 with e1 _ e1'
  injection e2 with e2 _ e2'
  subst e1 e1' e2 e2'
  exact (eqIntS_any _ _ _ _ xs xs w r1 r2 (by omega) (by omega)).mono fun _ _ ⟨he, hw⟩ => ⟨by rw [he]; simp, hw⟩
theorem heldI {A : Option Addr} {c B : Nat} (xs : List Int) (w : World) (h : OwnI w B 3 (.slice A xs.length c) (marks 1 xs.length)) (hx : xs.length ≤ 1048576) :
    Calls Try.prog 15 #[.slice A xs.length c, .int .i64 1] w fun e w' => e = .returned (.int .i64 (1 + xs.length)) ∧ Below w.heap.size w w' := by
  obtain ⟨A1, c1, e1, r1⟩ := h.form
  rw [marks_len] at e1
  injection e1 with e1 _ e1'
  subst e1 e1'
  have := heldIntS_any A c (marks 1 xs.length) 1 w r1 (by rw [marks_len]; omega) (by omega) (by omega)
  rw [heldR_marks, marks_len] at this
  exact this
set_option maxHeartbeats 4000000 in
theorem walk (w : World) (A0 : Option Addr) (c0 : Nat) (z0 : List ArmsD) (u0 : RdR 15 w A0 (acs z0)) (l0 : z0.length ≤ maxLen) (a : ArmsD) (wa : ∀ z ∈ [a.d, a.l, a.p, a.q, a.o, a.li, a.t, a.c1, a.k1, a.a1, a.t1, a.c2, a.k2, a.a2, a.t2], (Lit.int .i64 z).wf = true) :
    Calls Try.prog 6 #[.slice A0 z0.length c0, .agg (ac a).toArray] w fun e w' => e = .returned (.bool true) ∧ Below w.heap.size w w' := by
  clear wa
  go_enter Try.func6, Try.ntmps6
  go_wp2_with fail
  refine (szArmsS_any A0 z0.length c0 1048576 _ (by omega) l0).mono ?_
  rintro e y0 ⟨rfl, hy0⟩
  have hT : Below w.heap.size w y0 := by rw [← hy0]; (repeat (first | exact Below.refl _ _ | assumption | refine Below_al ?_ _ | refine Below.drew ?_ | refine Below_then ?_ (by assumption) | refine Below.setCell ?_ (by first | omega | (simp; done) | (simp; omega)) _))
  by_cases hs : (z0.length : Int) ≤ 1048576
  · rw [if_pos hs]
    have hn : 0 ≤ (1048576 : Int) - z0.length := by omega
    have HS := Lib.hid (show z0.length ≤ 1048576 by omega)
    have hF : y0.heap[w.heap.size]? = some (.cells (ac a).toArray 27 (0, 0)) := by rw [← hy0]; exact heap_hit _ _ _ rfl
    have hR := rangeAt_blk hF
    obtain ⟨zs, ok, hzl, KS, KI⟩ : ∃ (zs : List Int) (ok : Bool), zs.length ≤ 1000 ∧ (∀ (A : Option Addr) (c : Nat) (w : World), RdR 15 w A (acs z0) → Calls Try.prog 24 #[.slice A z0.length c, .agg (ac a).toArray] w (IntsOk w zs ok)) ∧ (∀ (A : Option Addr) (c : Nat) (w : World), RdR 15 w A (acs z0) → Calls Try.prog 25 #[.slice A z0.length c, .agg (ac a).toArray] w (IntsOk w zs ok)) := ⟨_, _, Nat.le_trans (freeL_len z0 a) (by omega), fun A c w h => specFree_any A c z0 a w h HS.out, fun A c w h => implFree_any A c z0 a w h HS.out⟩
    have KS' := Lib.hid KS
    have KI' := Lib.hid KI
    have hM : ¬ (1 + (zs.length : Int) < 0) := by omega
    have hM2 : ¬ (1 + 15 * (z0.length : Int) < 0) := by omega
    clear KS KI l0 hs hy0
    cases ok
    all_goals
      go_wp2_with fail
      refine wp_region_noPanic ?_
      refine wp_region_held_drew (S := (fun w' => w'.rangeAt w.heap.size 0 (ac a) ∧ Below y0.heap.size y0 w')) (by kernel_rfl) ⟨hR, (Below.refl _ _).drew⟩ (fun hHeld => ?_)
      refine wpAnyH_take (i := 0) (oi := _) (v := ?_) rfl (by kernel_rfl) (by kernel_rfl) (by kernel_rfl) (fun _ _ _ h => h) (Or.inl ⟨by rfl, ?_⟩) (by assumption) ?_
      rotate_left
      · intro w hSw; clear hSw; first | (go_simp; done) | (go_simp; with_reducible rfl)
      simp only [Act.put, List.getElem_toArray, List.getElem_cons_succ, List.getElem_cons_zero, List.setIfInBounds_toArray, List.set_cons_zero, List.set_cons_succ]
      refine wpAnyH_take (i := 2) (oi := _) (v := _) rfl ?g1_2 ?g2_2 ?g3_2 (fun _ _ _ h => h) (yieldsIf_load_mid ?g4_2 _ _ rfl w.heap.size ?oo_2 ?g5_2 (ac a) _ ?g6_2 Try.underlying27 rfl (info_acL a)) ?g7_2 ?_
      case g5_2 => rfl
      case g1_2 => kernel_rfl
      case g2_2 => kernel_rfl
      case g3_2 => kernel_rfl
      case g6_2 => exact (fun _ h => h.1)
      case g4_2 => kernel_rfl
      case g7_2 => assumption
      simp only [Act.put, List.getElem_toArray, List.getElem_cons_succ, List.getElem_cons_zero, List.setIfInBounds_toArray, List.set_cons_zero, List.set_cons_succ]
      refine wpAnyH_ready (rs := [1]) (by kernel_rfl) (by simp) ?_
      refine AllReadyH.cons (o := _) rfl (fun K hK => ?_) AllReadyH.nil
      go_simp
      refine (toArmsS_any A0 c0 z0 _ (u0.below (Below_then hT hHeld.2)) HS.out).mono ?_
      rintro e s1 ⟨sg, rfl, so, sh1⟩
      go_wp2_with fail
      refine hK.out _ _ (heldR1 hHeld sh1) (fun hHeld => ?_)
      clear hK K
      try simp only [Act.put, List.getElem_toArray, List.getElem_cons_succ, List.getElem_cons_zero, List.setIfInBounds_toArray, List.set_cons_zero, List.set_cons_succ]
      refine wpAnyH_ready (rs := [3]) (by kernel_rfl) (by simp) ?_
      refine AllReadyH.cons (o := _) rfl (fun K hK => ?_) AllReadyH.nil
      go_simp
      refine (toArmsC a _).mono ?_
      rintro e s2 ⟨rfl, sh2⟩
      go_wp2_with fail
      refine hK.out _ _ (heldR1 hHeld sh2) (fun hHeld => ?_)
      clear hK K
      try simp only [Act.put, List.getElem_toArray, List.getElem_cons_succ, List.getElem_cons_zero, List.setIfInBounds_toArray, List.set_cons_zero, List.set_cons_succ]
      refine wpAnyH_ready (rs := [4]) (by kernel_rfl) (by simp) ?_
      refine AllReadyH.cons (o := _) rfl (fun K hK => ?_) AllReadyH.nil
      go_simp
      refine (KS'.out _ _ _ (so.rd.below sh2)).mono ?_
      rintro e s3 ⟨sv, rfl, hoW, sh3⟩
      obtain ⟨sA, sc, rfl, -⟩ := hoW.form
      go_wp2_with fail
      refine hK.out _ _ (heldR1 hHeld sh3) (fun hHeld => ?_)
      clear hK K
      try simp only [Act.put, List.getElem_toArray, List.getElem_cons_succ, List.getElem_cons_zero, List.setIfInBounds_toArray, List.set_cons_zero, List.set_cons_succ]
      refine wpAnyH_take (i := 5) (oi := _) (v := ?_) rfl (by kernel_rfl) (by kernel_rfl) (by kernel_rfl) (fun _ _ _ h => h) (Or.inl ⟨by rfl, ?_⟩) (by assumption) ?_
      rotate_left
      · intro w hSw; clear hSw; first | (go_simp; done) | (go_simp; with_reducible rfl)
      simp only [Act.put, List.getElem_toArray, List.getElem_cons_succ, List.getElem_cons_zero, List.setIfInBounds_toArray, List.set_cons_zero, List.set_cons_succ]
      refine wpAnyH_take (i := 6) (oi := _) (v := ?_) rfl (by kernel_rfl) (by kernel_rfl) (by kernel_rfl) (fun _ _ _ h => h) (Or.inl ⟨by rfl, ?_⟩) (by assumption) ?_
      rotate_left
      · intro w hSw; clear hSw; first | (go_simp; done) | (go_simp; with_reducible rfl)
      simp only [Act.put, List.getElem_toArray, List.getElem_cons_succ, List.getElem_cons_zero, List.setIfInBounds_toArray, List.set_cons_zero, List.set_cons_succ]
      refine wpAnyH_take (i := 7) (oi := _) (v := ?_) rfl (by kernel_rfl) (by kernel_rfl) (by kernel_rfl) (fun _ _ _ h => h) (Or.inl ⟨by rfl, ?_⟩) (by assumption) ?_
      rotate_left
      · intro w hSw; clear hSw; first | (go_simp; done) | (go_simp; with_reducible rfl)
      simp only [Act.put, List.getElem_toArray, List.getElem_cons_succ, List.getElem_cons_zero, List.setIfInBounds_toArray, List.set_cons_zero, List.set_cons_succ]
      refine wpAnyH_take (i := 8) (oi := _) (v := ?_) rfl (by kernel_rfl) (by kernel_rfl) (by kernel_rfl) (fun _ _ _ h => h) (Or.inl ⟨by rfl, ?_⟩) (by assumption) ?_
      rotate_left
      · intro w hSw; clear hSw; first | (go_simp; done) | (go_simp; with_reducible rfl)
      simp only [Act.put, List.getElem_toArray, List.getElem_cons_succ, List.getElem_cons_zero, List.setIfInBounds_toArray, List.set_cons_zero, List.set_cons_succ]
      refine wpAnyH_take (i := 9) (oi := _) (v := ?_) rfl (by kernel_rfl) (by kernel_rfl) (by kernel_rfl) (fun _ _ _ h => h) (Or.inl ⟨by rfl, ?_⟩) (by assumption) ?_
      rotate_left
      · intro w hSw; clear hSw; first | (go_simp; done) | (go_simp; with_reducible rfl)
      simp only [Act.put, List.getElem_toArray, List.getElem_cons_succ, List.getElem_cons_zero, List.setIfInBounds_toArray, List.set_cons_zero, List.set_cons_succ]
      refine wpAnyH_done (by kernel_rfl) ?_ _
      refine NoPanic.normal ?_

      obtain ⟨-, sb⟩ : _ ∧ Below y0.heap.size y0 s3 := (by assumption)
      have hT := Below_then hT sb
      have hF := heap_keepB hF sb
      clear so sh1 sh2 sh3 sb hHeld hR
      have hsz := hT.size
      have hFs := heap_lt hF
      have hoW0 := hoW
      go_wp2_with fail
      refine (toArmsS_any A0 c0 z0 _ (u0.below hT) HS.out).mono ?_
      rintro e y1 ⟨g2, rfl, hoX, hy1⟩
      have hT := Below_then hT hy1
      have hF := heap_keepB hF hy1
      have hoW := hoW.below hy1
      have hgl := hoX.low
      have hg2 := heap_lt hoX.blk
      have hFl := heap_lt hF
      have hWX : ∀ b, Value.ownBlock (.slice sA zs.length sc) = some b → b ≠ g2 := fun b hb e => by
        have := (hoW0.lt b hb).2
        omega
      have hR := rangeAt_blk hF
      clear hy1 hoW0
      go_wp2_with (first | (refine ldAL rfl _ rfl _ _ rfl _ hR ?_) | fail)
      refine (toArmsC a _).mono ?_
      rintro e v2 ⟨rfl, hv2⟩
      have hT := Below_then hT hv2
      have hF := heap_keepB hF hv2
      have hoW := hoW.below hv2
      have hoX := hoX.below hv2
      have hv2s := hv2.size
      clear hR hv2
      go_wp2_with fail
      refine (KI'.out _ _ _ hoX.rd).mono ?_
      rintro e v3 ⟨gv, rfl, hoG, hv3⟩
      have hWl := hoW.lt
      have hap := hoW.apart hoG (Nat.le_refl _)
      have hGX : gv.ownBlock ≠ some g2 := fun e => by have := (hoG.lt g2 e).1; omega
      have hGF : gv.ownBlock ≠ some w.heap.size := fun e => by have := (hoG.lt _ e).1; omega
      have htop : ∀ k, gv.ownBlock = some k → w.heap.size ≤ k := fun k hk => by have := (hoG.lt k hk).1; have := hT.size; omega
      have hT := Below_then hT hv3
      have hF := heap_keepB hF hv3
      have hoW := hoW.below hv3
      have hoX := hoX.below hv3
      obtain ⟨gA, gc, rfl, -⟩ := hoG.form
      have HAP := Lib.hid hap
      have HGX := Lib.hid hGX
      have HGF := Lib.hid hGF
      have HTOP := Lib.hid htop
      have HWX := Lib.hid hWX
      clear hv3 hap hGX hGF htop hWX hWl
      go_wp2_with fail
      refine (eqI zs _ hoG hoW (by omega)).mono ?_
      rintro e v4 ⟨rfl, hv4⟩
      have hT := Below_then hT hv4
      have hF := heap_keepB hF hv4
      have hoW := hoW.below hv4
      have hoX := hoX.below hv4
      have hoG := hoG.below hv4
      clear hv4
      go_wp2_with fail
      refine (toArmsS_any A0 c0 z0 _ (u0.below hT) HS.out).mono ?_
      rintro e v5 ⟨g5, rfl, ho5, hv5⟩
      have hT := Below_then hT hv5
      have hF := heap_keepB hF hv5
      have hoW := hoW.below hv5
      have hoX := hoX.below hv5
      have hoG := hoG.below hv5
      clear hv5
      go_wp2_with fail
      refine (eqArmsS_same _ _ _ _ z0 _ hoX.rd ho5.rd HS.out).mono ?_
      rintro e v6 ⟨rfl, hv6⟩
      have hT := Below_then hT hv6
      have hF := heap_keepB hF hv6
      have hoW := hoW.below hv6
      have hoX := hoX.below hv6
      have hoG := hoG.below hv6
      have hBk := hoX.toBlk
      rw [acs_len] at hBk
      clear hv6 ho5
      go_wp2_with fail
      refine (markArmsS_any g2 z0.length z0.length 1 _ hBk HS.out (by omega) (by omega)).mono ?_
      rintro e v7 ⟨rfl, hg7⟩
      have hT := hT.grown hg7 hT.size (fun k hk => by injection hk with hk; omega)
      have hF := heap_keepG hF hg7 (fun e => by injection e with e; omega)
      have hoW := hoW.other hg7 (by
        cases e : Value.ownBlock (.slice sA zs.length sc) with
        | none => exact .inl rfl
        | some b => exact .inr fun e2 => HWX.out b e (by injection e2))
      have hoG := hoG.other hg7 (.inr HGX.out)
      clear hg7 hoX hBk
      go_wp2_with fail
      refine (eqI zs _ hoG hoW (by omega)).mono ?_
      rintro e v8 ⟨rfl, hv8⟩
      have hT := Below_then hT hv8
      have hF := heap_keepB hF hv8
      have hoW := hoW.below hv8
      have hoG := hoG.below hv8
      clear hv8
      go_wp2_with fail
      refine (markIntS_any _ _ zs 1 _ hoG (by omega) (by omega) (by omega)).mono ?_
      rintro e v9 ⟨rfl, hmG, hg9⟩
      have hT := hT.grown hg9 hT.size HTOP.out
      have hF := heap_keepG hF hg9 HGF.out
      have hoW := hoW.other hg9 HAP.out
      clear hg9 hoG
      go_wp2_with fail
      refine (heldI zs _ hmG (by omega)).mono ?_
      rintro e va ⟨rfl, hva⟩
      have hT := Below_then hT hva
      have hF := heap_keepB hF hva
      have hoW := hoW.below hva
      have hmG := hmG.below hva
      have hR := rangeAt_blk hF
      clear hva
      go_wp2_with fail
      refine wp_region_noPanic ?_
      refine wp_region_held_drew (S := (fun w' => w'.rangeAt w.heap.size 0 (ac a) ∧ Below va.heap.size va w')) (by kernel_rfl) ⟨hR, (Below.refl _ _).drew⟩ (fun hHeld => ?_)
      refine wpAnyH_take (i := 0) (oi := _) (v := ?_) rfl (by kernel_rfl) (by kernel_rfl) (by kernel_rfl) (fun _ _ _ h => h) (Or.inl ⟨by rfl, ?_⟩) (by assumption) ?_
      rotate_left
      · intro w hSw; clear hSw; first | (go_simp; done) | (go_simp; with_reducible rfl)
      simp only [Act.put, List.getElem_toArray, List.getElem_cons_succ, List.getElem_cons_zero, List.setIfInBounds_toArray, List.set_cons_zero, List.set_cons_succ]
      refine wpAnyH_take (i := 2) (oi := _) (v := _) rfl ?g1_3 ?g2_3 ?g3_3 (fun _ _ _ h => h) (yieldsIf_load_mid ?g4_3 _ _ rfl w.heap.size ?oo_3 ?g5_3 (ac a) _ ?g6_3 Try.underlying27 rfl (info_acL a)) ?g7_3 ?_
      case g5_3 => rfl
      case g1_3 => kernel_rfl
      case g2_3 => kernel_rfl
      case g3_3 => kernel_rfl
      case g6_3 => exact (fun _ h => h.1)
      case g4_3 => kernel_rfl
      case g7_3 => assumption
      simp only [Act.put, List.getElem_toArray, List.getElem_cons_succ, List.getElem_cons_zero, List.setIfInBounds_toArray, List.set_cons_zero, List.set_cons_succ]
      refine wpAnyH_ready (rs := [1]) (by kernel_rfl) (by simp) ?_
      refine AllReadyH.cons (o := _) rfl (fun K hK => ?_) AllReadyH.nil
      go_simp
      refine (toArmsS_any A0 c0 z0 _ (u0.below (Below_then hT hHeld.2)) HS.out).mono ?_
      rintro e t1 ⟨tg, rfl, tto, th1⟩
      go_wp2_with fail
      refine hK.out _ _ (heldR1 hHeld th1) (fun hHeld => ?_)
      clear hK K
      try simp only [Act.put, List.getElem_toArray, List.getElem_cons_succ, List.getElem_cons_zero, List.setIfInBounds_toArray, List.set_cons_zero, List.set_cons_succ]
      refine wpAnyH_ready (rs := [3]) (by kernel_rfl) (by simp) ?_
      refine AllReadyH.cons (o := _) rfl (fun K hK => ?_) AllReadyH.nil
      go_simp
      refine (toArmsC a _).mono ?_
      rintro e t2 ⟨rfl, th2⟩
      go_wp2_with fail
      refine hK.out _ _ (heldR1 hHeld th2) (fun hHeld => ?_)
      clear hK K
      try simp only [Act.put, List.getElem_toArray, List.getElem_cons_succ, List.getElem_cons_zero, List.setIfInBounds_toArray, List.set_cons_zero, List.set_cons_succ]
      refine wpAnyH_ready (rs := [4]) (by kernel_rfl) (by simp) ?_
      refine AllReadyH.cons (o := _) rfl (fun K hK => ?_) AllReadyH.nil
      go_simp
      refine (KI'.out _ _ _ (tto.rd.below th2)).mono ?_
      rintro e t3 ⟨tv, rfl, hoH, th3⟩
      obtain ⟨tA, tc, rfl, -⟩ := hoH.form
      go_wp2_with fail
      refine hK.out _ _ (heldR1 hHeld th3) (fun hHeld => ?_)
      clear hK K
      try simp only [Act.put, List.getElem_toArray, List.getElem_cons_succ, List.getElem_cons_zero, List.setIfInBounds_toArray, List.set_cons_zero, List.set_cons_succ]
      refine wpAnyH_take (i := 5) (oi := _) (v := ?_) rfl (by kernel_rfl) (by kernel_rfl) (by kernel_rfl) (fun _ _ _ h => h) (Or.inl ⟨by rfl, ?_⟩) (by assumption) ?_
      rotate_left
      · intro w hSw; clear hSw; first | (go_simp; done) | (go_simp; with_reducible rfl)
      simp only [Act.put, List.getElem_toArray, List.getElem_cons_succ, List.getElem_cons_zero, List.setIfInBounds_toArray, List.set_cons_zero, List.set_cons_succ]
      refine wpAnyH_take (i := 6) (oi := _) (v := ?_) rfl (by kernel_rfl) (by kernel_rfl) (by kernel_rfl) (fun _ _ _ h => h) (Or.inl ⟨by rfl, ?_⟩) (by assumption) ?_
      rotate_left
      · intro w hSw; clear hSw; first | (go_simp; done) | (go_simp; with_reducible rfl)
      simp only [Act.put, List.getElem_toArray, List.getElem_cons_succ, List.getElem_cons_zero, List.setIfInBounds_toArray, List.set_cons_zero, List.set_cons_succ]
      refine wpAnyH_take (i := 7) (oi := _) (v := ?_) rfl (by kernel_rfl) (by kernel_rfl) (by kernel_rfl) (fun _ _ _ h => h) (Or.inl ⟨by rfl, ?_⟩) (by assumption) ?_
      rotate_left
      · intro w hSw; clear hSw; first | (go_simp; done) | (go_simp; with_reducible rfl)
      simp only [Act.put, List.getElem_toArray, List.getElem_cons_succ, List.getElem_cons_zero, List.setIfInBounds_toArray, List.set_cons_zero, List.set_cons_succ]
      refine wpAnyH_take (i := 8) (oi := _) (v := ?_) rfl (by kernel_rfl) (by kernel_rfl) (by kernel_rfl) (fun _ _ _ h => h) (Or.inl ⟨by rfl, ?_⟩) (by assumption) ?_
      rotate_left
      · intro w hSw; clear hSw; first | (go_simp; done) | (go_simp; with_reducible rfl)
      simp only [Act.put, List.getElem_toArray, List.getElem_cons_succ, List.getElem_cons_zero, List.setIfInBounds_toArray, List.set_cons_zero, List.set_cons_succ]
      refine wpAnyH_take (i := 9) (oi := _) (v := ?_) rfl (by kernel_rfl) (by kernel_rfl) (by kernel_rfl) (fun _ _ _ h => h) (Or.inl ⟨by rfl, ?_⟩) (by assumption) ?_
      rotate_left
      · intro w hSw; clear hSw; first | (go_simp; done) | (go_simp; with_reducible rfl)
      simp only [Act.put, List.getElem_toArray, List.getElem_cons_succ, List.getElem_cons_zero, List.setIfInBounds_toArray, List.set_cons_zero, List.set_cons_succ]
      refine wpAnyH_done (by kernel_rfl) ?_ _
      refine NoPanic.normal ?_

      obtain ⟨-, sb⟩ : _ ∧ Below va.heap.size va t3 := (by assumption)
      have hT := Below_then hT sb
      have hoW := hoW.below sb
      have hmG := hmG.below sb
      clear tto th1 th2 th3 sb hHeld hR hF
      go_wp2_with fail
      refine (eqI zs _ hoH hoW (by omega)).mono ?_
      rintro e vb ⟨rfl, hvb⟩
      have hT := Below_then hT hvb
      have hmG := hmG.below hvb
      clear hvb hoH hoW
      go_wp2_with fail
      refine (heldI zs _ hmG (by omega)).mono ?_
      rintro e vc ⟨rfl, hvc⟩
      have hT := Below_then hT hvc
      clear hvc hmG
      go_wp2
      go_ret
      exact ⟨rfl, hT⟩
  · rw [if_neg hs]
    go_wp2
    go_ret
    exact ⟨rfl, hT⟩

/-! ### The row's step: written by a program of mine (frame.py) after the kit's shell -/
theorem laidOut : laidOutB Try.prog = true := by kernel_rfl
set_option maxRecDepth 100000 in
theorem lifted (os : Os) (started : os.Started) (H : Type) (enc : TypeId × Value → H) :
    ReturnsInHanded {} Try.checked os 6 .any (Rows.fnExactFreeTincturesSpec.pre6 enc Try.prog Try.f6 Rows.fnExactFreeTincturesRow.domain false) (Rows.fnExactFreeTincturesSpec.post enc Try.prog Try.f6 false true false false) := by
  refine returnsInHanded_of_change (C := Try.checked) own started (by kernel_rfl) Try.func6
    (ChangeSpec.witness6 (enc := enc) (C := Try.checked) false ⟨#[], #[.slice none 0 0, .agg #[.int .i64 0, .int .i64 0, .int .i64 0, .int .i64 0, .int .i64 0, .int .i64 0, .int .i64 0, .int .i64 0, .int .i64 0, .int .i64 0, .int .i64 0, .int .i64 0, .int .i64 0, .int .i64 0, .int .i64 0]], []⟩ 8 (by kernel_rfl) (by kernel_rfl) (by kernel_rfl) (by kernel_rfl)) ?_
  intro W base args ds gs before hval0 hW hcnd _
  have hval : ∀ (j : Nat) t v, Try.f6.params[j]? = some t → args[j]? = some v → Value.okWide Try.prog W .any base t v := hval0
  have hW' := hW
  obtain ⟨p, q, hA0, hV, rfl, hfz, hnd⟩ := hW
  have hA : DataW.TrodAll enc Try.prog W 0 (fun _ => true) true Try.f6.params.toList args.toList ds p := hA0
  rw [Try.params6] at hA hval
  obtain ⟨v0, vs0, d0, ds0, p0, q0, hargs, rfl, rfl, h0, r0⟩ := trodAll_cons hA
  obtain ⟨v1, vs1, d1, ds1, p1, q1, rfl, rfl, rfl, h1, r1⟩ := trodAll_cons r0
  obtain ⟨rfl, rfl, rfl⟩ := trodAll_nil r1
  obtain rfl : args = #[v0, v1] := by cases args; simp_all
  obtain ⟨rfl, rfl⟩ := trodVars_none hV
  have k0 := h0
  have lt0 : ∀ x ∈ p0, x.block < W.heap.size := by obtain ⟨m, hm⟩ := k0; exact DataW.trod_lt m _ _ _ hm
  obtain ⟨A0, c0, z0, rfl, u0, l0⟩ := openArmsS (hval 0 43 v0 rfl rfl) h0
  have k1 := h1
  have lt1 : ∀ x ∈ p1, x.block < W.heap.size := by obtain ⟨m, hm⟩ := k1; exact DataW.trod_lt m _ _ _ hm
  obtain ⟨a1, rfl, w1⟩ := openArms (hval 1 27 v1 rfl rfl) h1
  clear hA0 hval0
  refine (walk W A0 c0 z0 u0 l0 a1 w1).mono fun e W' ⟨he, bel⟩ => ?_
  subst he
  exact ⟨_, rfl, _, _, _, [], _, [], hW', trodAll_mk1 (shut_bool Try.underlying4 _), (trodAll_cons_mk (Below.trod laidOut (by kernel_rfl) (of_decide_eq_true (by kernel_rfl)) k0 bel lt0) (trodAll_cons_mk (Below.trod laidOut (by kernel_rfl) (of_decide_eq_true (by kernel_rfl)) k1 bel lt1) trodAll_mk0)), rfl, bel.frame _, fun h => by cases h⟩

theorem over : Rows.fnExactFreeTincturesRow.holds Try.pinned (OpenSpec.ofChange Rows.fnExactFreeTincturesSpec) :=
  OpenClaim.holds_of_wide 6 Try.f6 rfl rfl rfl rfl rfl rfl rfl ⟨rfl, rfl, rfl, rfl, rfl⟩ rfl rfl rfl rfl rfl (by kernel_rfl) Try.func6 (by kernel_rfl)
    (of_decide_eq_true (by kernel_rfl)) (by unfold Func.isWrapper; first | (rw [if_pos (by decide +kernel)]; kernel_rfl) | (rw [if_neg (by decide +kernel)]; exact ⟨rfl, rfl⟩))
    (fun os started H enc _ => lifted os started H enc)

theorem proved : Rows.FnExactFreeTincturesSaid := over
#print axioms proved

end Go.Proofs.Ytpboheaiigbfbaa.fnExactFreeTinctures
