/- FnExactSimilarGrants: for all arguments SimilarGrants of the program returns what SimilarGrants of the reference returns, leaves its arguments as they are, in memory of its own. No condition. -/
import Derived.Test.YtmjgogklalploaaGreatDoorFeat2
import Derived.Test.YtmjgogklalploaaGreatDoorStrs2
import Derived.Test.YtmjgogklalploaaGreatDoorFeat5
import Derived.Test.YtmjgogklalploaaGreatDoorConf
import Derived.ProofKit
import Derived.Test.YtmjgogklalploaaGreatDoorGrMark
import Derived.Test.YtmjgogklalploaaGreatDoorReg3
import Derived.Test.YtmjgogklalploaaGreatDoorReg4
import Derived.Maps.AppendAt
import Derived.Test.YtmjgogklalploaaGreatDoorApp
import Derived.Test.YtmjgogklalploaaGreatDoorRows
import Derived.Test.YtmjgogklalploaaGreatDoorGrOpen
import Derived.Test.YtmjgogklalploaaGreatDoorAOpen
import Derived.Test.YtmjgogklalploaaGreatDoorInts
import Derived.Test.YtmjgogklalploaaGreatDoorCards
import Derived.Test.YtmjgogklalploaaGreatDoorTie
import Derived.LaidMore
import Derived.OpenShut
import Derived.Stop.Joined
import Derived.SevenTiedAt
/-! ### List -/
namespace Go.Proofs.YtmjgogklalploaaGreatDoor
open Go.ChangeShapes Go.WideShapes Go.ChangeAt Go.RowKit
set_option linter.unusedVariables false
set_option linter.unusedSimpArgs false
/-- The feature at a place is one, and stands behind the one ahead of it. -/
def okAt (zs : List ByteArray) (i : Nat) : Bool :=
  match zs[i]? with
  | none => true
  | some x => hasB FEATS x && (decide (i = 0) || match zs[i - 1]? with | none => true | some y => ltS y x)
def lsOk (zs : List ByteArray) : Bool := (List.range zs.length).all (okAt zs) && decide (zs.length ≤ 10)
theorem lsOk_no {zs : List ByteArray} {k : Nat} {x : ByteArray} (hx : zs[k]? = some x) (h : okAt zs k = false) : lsOk zs = false := by
  have hk := (List.getElem?_eq_some_iff.1 hx).1
  unfold lsOk
  rw [Bool.and_eq_false_iff]
  left
  rw [List.all_eq_false]
  exact ⟨k, List.mem_range.2 hk, by rw [h]; simp⟩
theorem lsOk_len {zs : List ByteArray} (h : ∀ j, j < zs.length → okAt zs j = true) : lsOk zs = decide (zs.length ≤ 10) := by
  unfold lsOk
  rw [List.all_eq_true.2 fun j hj => h j (List.mem_range.1 hj), Bool.true_and]
theorem lsOk_small {zs : List ByteArray} (h : lsOk zs = true) : zs.length ≤ 10 := by
  unfold lsOk at h
  rw [Bool.and_eq_true] at h
  exact of_decide_eq_true h.2
set_option maxHeartbeats 2000000 in
theorem areFeatures_any (A : Option Addr) (c : Nat) (zs : List ByteArray) (w : World) (h : RdS w A zs) (hx : zs.length ≤ 1048576) (hs : ∀ s ∈ zs, s.size ≤ maxLen) :
    Calls Tryz.prog 47 #[.slice A zs.length c] w fun e w' => e = .returned (.bool (lsOk zs)) ∧ Below w.heap.size w w' := by
  go_enter Tryz.func47, Tryz.ntmps47
  go_wp2_with fail
  go_loopw [7] (fun i wr => ∃ k : Nat, k ≤ zs.length ∧ i = .int .i64 k ∧ (∀ j, j < k → okAt zs j = true) ∧ Below w.heap.size w wr) (fun i _ => zs.length - (intOf i).toNat)
  case atStart => exact ⟨0, Nat.zero_le _, rfl, fun j hj => absurd hj (by omega), Below.refl _ _⟩
  case round =>
    obtain ⟨k, hk, rfl, hall, hb⟩ := hrel
    have HA := Lib.hid hall
    clear hall
    by_cases hlt : k < zs.length
    · obtain ⟨b, off, rfl, c1, -⟩ := (h.below hb).at_ hlt
      obtain ⟨x, hx⟩ : ∃ x, x = zs[k] := ⟨_, rfl⟩
      rw [← hx] at c1
      have hxm : x.size ≤ maxLen := by rw [hx]; exact hs _ (List.getElem_mem _)
      have hxk : zs[k]? = some x := by rw [hx]; exact List.getElem?_eq_getElem hlt
      have HX := Lib.hid hxk
      have i1 : (k : Int) < (zs.length : Int) := by omega
      have d1 : decide (k < zs.length) = true := by simpa using hlt
      obtain ⟨q, hq⟩ : ∃ q, q = hasB FEATS x := ⟨_, rfl⟩
      have KI := Lib.hid (fun w => implIsFeature_any x w)
      rw [← hq] at KI
      have HQ := Lib.hid hq
      clear hx hxm hxk hq
      cases q
      · skip
        go_wp2_with fail
        refine (KI.out _).mono ?_
        rintro e w2 ⟨rfl, hb2⟩
        have hb3 := Below_then hb hb2
        clear hb2
        go_wp2
        go_ret
        exact ⟨retB (lsOk_no HX.out (by unfold okAt; rw [HX.out]; simp [← HQ.out])).symm, hb3⟩
      · cases k with
        | zero =>
          simp only [Nat.add_zero] at c1
          go_wp2_with fail
          refine (KI.out _).mono ?_
          rintro e w2 ⟨rfl, hb2⟩
          have hb3 := Below_then hb hb2
          clear hb2
          go_wp2
          go_roundw
          case rel =>
            refine ⟨1, by omega, by go_num, fun j hj => ?_, hb3⟩
            obtain rfl : j = 0 := by omega
            unfold okAt
            rw [HX.out]
            simp [← HQ.out]
          case measure => simp [intOf]; omega
        | succ j =>
          obtain ⟨b', off', e1, c2, -⟩ := (h.below hb).at_ (show j < zs.length by omega)
          injection e1 with e1
          injection e1 with e1 e2
          subst e1 e2
          obtain ⟨y, hy⟩ : ∃ y, y = zs[j] := ⟨_, rfl⟩
          rw [← hy] at c2
          have hyj : zs[j]? = some y := by rw [hy]; exact List.getElem?_eq_getElem (by omega)
          have HY := Lib.hid hyj
          have f1 : (0 : Int) ≤ (j : Int) + 1 := by omega
          have f2 : (j : Int) + 1 < (zs.length : Int) := by omega
          have f3 : IntKind.i64.wrap (j : Int) = (j : Int) := by rw [IntKind.wrap_i64]; omega
          have f4 : (j : Int) < (zs.length : Int) := by omega
          have f5 : (0 : Int) < (j : Int) + 1 := by omega
          clear hy hyj
          cases hl : Op.bytesLess y.toList x.toList
          · have HL := Lib.hid hl
            go_wp2_with fail
            refine (KI.out _).mono ?_
            rintro e w2 ⟨rfl, hb2⟩
            have hb3 := Below_then hb hb2
            have c2 := keep_cell c2 hb2
            clear hb2
            go_wp2
            go_ret
            exact ⟨retB (lsOk_no HX.out (by unfold okAt; rw [HX.out, Nat.add_sub_cancel, HY.out]; simp [← HQ.out]; exact HL.out)).symm, hb3⟩
          · have HL := Lib.hid hl
            go_wp2_with fail
            refine (KI.out _).mono ?_
            rintro e w2 ⟨rfl, hb2⟩
            have hb3 := Below_then hb hb2
            have c2 := keep_cell c2 hb2
            clear hb2
            go_wp2
            go_roundw
            case rel =>
              refine ⟨j + 2, by omega, by go_num, fun i hi => ?_, hb3⟩
              by_cases e : i = j + 1
              · subst e
                unfold okAt
                rw [HX.out, Nat.add_sub_cancel, HY.out]
                simp [← HQ.out]
                exact HL.out
              · exact HA.out i (by omega)
            case measure => simp [intOf]; omega
    · obtain rfl : k = zs.length := by omega
      have d1 : decide (zs.length < zs.length) = false := by simp
      have e : lsOk zs = decide (zs.length ≤ 10) := lsOk_len HA.out
      have HE := Lib.hid e
      clear e
      by_cases h10 : zs.length ≤ 10
      · have g1 : (zs.length : Int) ≤ 10 := by omega
        go_wp2
        go_ret
        exact ⟨retB (by rw [HE.out]; simpa using h10), hb⟩
      · have g1 : ¬ (zs.length : Int) ≤ 10 := by omega
        go_wp2
        go_ret
        exact ⟨retB (by rw [HE.out]; simpa using h10), hb⟩
set_option maxHeartbeats 4000000 in
theorem l17List_any (A : Option Addr) (c : Nat) (zs : List ByteArray) (w : World) (h : RdS w A zs) (hx : zs.length ≤ 1048576) (hs : ∀ s ∈ zs, s.size ≤ maxLen) :
    Calls Tryz.prog 46 #[.slice A zs.length c] w fun e w' => e = .returned (.bool (lsOk zs)) ∧ Below w.heap.size w w' := by
  go_enter Tryz.func46, Tryz.ntmps46
  go_wp2_with fail
  go_loopw [3] (fun i wr => ∃ k : Nat, k ≤ zs.length ∧ i = .int .i64 k ∧ (∀ j, j < k → okAt zs j = true) ∧ Below w.heap.size w wr) (fun i _ => zs.length - (intOf i).toNat)
  case atStart => exact ⟨0, Nat.zero_le _, rfl, fun j hj => absurd hj (by omega), Below.refl _ _⟩
  case round =>
    obtain ⟨k, hk, rfl, hall, hb⟩ := hrel
    have HA := Lib.hid hall
    clear hall
    by_cases hlt : k < zs.length
    · obtain ⟨b, off, rfl, c1, -⟩ := (h.below hb).at_ hlt
      obtain ⟨x, hx⟩ : ∃ x, x = zs[k] := ⟨_, rfl⟩
      rw [← hx] at c1
      have hxm : x.size ≤ maxLen := by rw [hx]; exact hs _ (List.getElem_mem _)
      have hxk : zs[k]? = some x := by rw [hx]; exact List.getElem?_eq_getElem hlt
      have HX := Lib.hid hxk
      have i1 : (k : Int) < (zs.length : Int) := by omega
      have d1 : decide (k < zs.length) = true := by simpa using hlt
      obtain ⟨q, hq⟩ : ∃ q, q = hasB FEATS x := ⟨_, rfl⟩
      have KI := Lib.hid (fun w => specIsFeature_any x w hxm)
      rw [← hq] at KI
      have HQ := Lib.hid hq
      clear hx hxm hxk hq
      cases q
      · skip
        go_wp2_with fail
        refine wp_region_noPanic ?_
        refine wp_region_held_drew (S := (fun w' => w'.cell? ⟨b, off + k, none⟩ = some (.string x) ∧ Below wr.heap.size wr w')) (by kernel_rfl) ⟨c1, (Below.refl _ _).drew⟩ (fun hHeld => ?_)
        refine wpAnyH_take (i := 0) (oi := _) (v := ?_) rfl (by kernel_rfl) (by kernel_rfl) (by kernel_rfl) (fun _ _ _ h => h) (Or.inl ⟨by rfl, ?_⟩) (by assumption) ?_
        rotate_left
        · intro w hSw; clear hSw; first | (go_simp; done) | (go_simp; with_reducible rfl)
        simp only [Act.put, List.getElem_toArray, List.getElem_cons_succ, List.getElem_cons_zero, List.setIfInBounds_toArray, List.set_cons_zero, List.set_cons_succ]
        refine wpAnyH_take (i := 1) (oi := _) (v := ?_) rfl (by kernel_rfl) (by kernel_rfl) (by kernel_rfl) (fun _ _ _ h => h) (Or.inl ⟨by rfl, ?_⟩) (by assumption) ?_
        rotate_left
        · intro w hSw; clear hSw; first | (go_simp; done) | (go_simp; with_reducible rfl)
        simp only [Act.put, List.getElem_toArray, List.getElem_cons_succ, List.getElem_cons_zero, List.setIfInBounds_toArray, List.set_cons_zero, List.set_cons_succ]
        refine wpAnyH_take (i := 2) (oi := _) (v := ?_) rfl (by kernel_rfl) (by kernel_rfl) (by kernel_rfl) (fun _ _ _ h => h) (Or.inl ⟨by rfl, ?_⟩) (by assumption) ?_
        rotate_left
        · intro w hSw; clear hSw; first | (go_simp; done) | (go_simp; with_reducible rfl)
        simp only [Act.put, List.getElem_toArray, List.getElem_cons_succ, List.getElem_cons_zero, List.setIfInBounds_toArray, List.set_cons_zero, List.set_cons_succ]
        refine wpAnyH_take (i := 3) (oi := _) (v := ?_) rfl (by kernel_rfl) (by kernel_rfl) (by kernel_rfl) (fun _ _ _ h => h) (Or.inl ⟨by rfl, ?_⟩) (by assumption) ?_
        rotate_left
        · intro w hSw; (try dsimp only at hSw); first | (go_simp; done) | (go_simp; with_reducible rfl)
        simp only [Act.put, List.getElem_toArray, List.getElem_cons_succ, List.getElem_cons_zero, List.setIfInBounds_toArray, List.set_cons_zero, List.set_cons_succ]
        refine wpAnyH_ready (rs := [4]) (by kernel_rfl) (by simp) ?_
        refine AllReadyH.cons (o := _) rfl (fun K hK => ?_) AllReadyH.nil
        go_simp
        refine (KI.out _).mono ?_
        rintro e w2 ⟨rfl, hb2⟩
        go_wp2_with fail
        refine hK.out _ _ ⟨keep_cell hHeld.1 hb2, Below_then hHeld.2 hb2⟩ (fun hHeld => ?_)
        clear hK K
        try simp only [Act.put, List.getElem_toArray, List.getElem_cons_succ, List.getElem_cons_zero, List.setIfInBounds_toArray, List.set_cons_zero, List.set_cons_succ]
        refine wpAnyH_take (i := 5) (oi := _) (v := ?_) rfl (by kernel_rfl) (by kernel_rfl) (by kernel_rfl) (fun _ _ _ h => h) (Or.inl ⟨by rfl, ?_⟩) (by assumption) ?_
        rotate_left
        · intro w hSw; clear hSw; first | (go_simp; done) | (go_simp; with_reducible rfl)
        simp only [Act.put, List.getElem_toArray, List.getElem_cons_succ, List.getElem_cons_zero, List.setIfInBounds_toArray, List.set_cons_zero, List.set_cons_succ]
        refine wpAnyH_take (i := 6) (oi := _) (v := ?_) rfl (by kernel_rfl) (by kernel_rfl) (by kernel_rfl) (fun _ _ _ h => h) (Or.inl ⟨by rfl, ?_⟩) (by assumption) ?_
        rotate_left
        · intro w hSw; clear hSw; first | (go_simp; done) | (go_simp; with_reducible rfl)
        simp only [Act.put, List.getElem_toArray, List.getElem_cons_succ, List.getElem_cons_zero, List.setIfInBounds_toArray, List.set_cons_zero, List.set_cons_succ]
        refine wpAnyH_take (i := 7) (oi := _) (v := _) rfl (by kernel_rfl) (by kernel_rfl) (by kernel_rfl) (fun _ _ _ h => h) (Or.inr ⟨by kernel_rfl, rfl⟩) (by assumption) ?_
        simp only [Act.put, List.getElem_toArray, List.getElem_cons_succ, List.getElem_cons_zero, List.setIfInBounds_toArray, List.set_cons_zero, List.set_cons_succ]
        refine wpAnyH_take (i := 8) (oi := _) (v := _) rfl (by kernel_rfl) (by kernel_rfl) (by kernel_rfl) (fun _ _ _ h => h) (Or.inr ⟨by kernel_rfl, rfl⟩) (by assumption) ?_
        simp only [Act.put, List.getElem_toArray, List.getElem_cons_succ, List.getElem_cons_zero, List.setIfInBounds_toArray, List.set_cons_zero, List.set_cons_succ]
        refine wpAnyH_take (i := 9) (oi := _) (v := _) rfl (by kernel_rfl) (by kernel_rfl) (by kernel_rfl) (fun _ _ _ h => h) (Or.inr ⟨by kernel_rfl, rfl⟩) (by assumption) ?_
        simp only [Act.put, List.getElem_toArray, List.getElem_cons_succ, List.getElem_cons_zero, List.setIfInBounds_toArray, List.set_cons_zero, List.set_cons_succ]
        refine wpAnyH_take (i := 10) (oi := _) (v := _) rfl (by kernel_rfl) (by kernel_rfl) (by kernel_rfl) (fun _ _ _ h => h) (Or.inr ⟨by kernel_rfl, rfl⟩) (by assumption) ?_
        simp only [Act.put, List.getElem_toArray, List.getElem_cons_succ, List.getElem_cons_zero, List.setIfInBounds_toArray, List.set_cons_zero, List.set_cons_succ]
        refine wpAnyH_take (i := 11) (oi := _) (v := _) rfl (by kernel_rfl) (by kernel_rfl) (by kernel_rfl) (fun _ _ _ h => h) (Or.inr ⟨by kernel_rfl, rfl⟩) (by assumption) ?_
        simp only [Act.put, List.getElem_toArray, List.getElem_cons_succ, List.getElem_cons_zero, List.setIfInBounds_toArray, List.set_cons_zero, List.set_cons_succ]
        refine wpAnyH_take (i := 12) (oi := _) (v := _) rfl (by kernel_rfl) (by kernel_rfl) (by kernel_rfl) (fun _ _ _ h => h) (Or.inr ⟨by kernel_rfl, rfl⟩) (by assumption) ?_
        simp only [Act.put, List.getElem_toArray, List.getElem_cons_succ, List.getElem_cons_zero, List.setIfInBounds_toArray, List.set_cons_zero, List.set_cons_succ]
        refine wpAnyH_take (i := 13) (oi := _) (v := _) rfl (by kernel_rfl) (by kernel_rfl) (by kernel_rfl) (fun _ _ _ h => h) (Or.inr ⟨by kernel_rfl, rfl⟩) (by assumption) ?_
        simp only [Act.put, List.getElem_toArray, List.getElem_cons_succ, List.getElem_cons_zero, List.setIfInBounds_toArray, List.set_cons_zero, List.set_cons_succ]
        refine wpAnyH_take (i := 14) (oi := _) (v := _) rfl (by kernel_rfl) (by kernel_rfl) (by kernel_rfl) (fun _ _ _ h => h) (Or.inr ⟨by kernel_rfl, rfl⟩) (by assumption) ?_
        simp only [Act.put, List.getElem_toArray, List.getElem_cons_succ, List.getElem_cons_zero, List.setIfInBounds_toArray, List.set_cons_zero, List.set_cons_succ]
        refine wpAnyH_take (i := 15) (oi := _) (v := _) rfl (by kernel_rfl) (by kernel_rfl) (by kernel_rfl) (fun _ _ _ h => h) (Or.inr ⟨by kernel_rfl, rfl⟩) (by assumption) ?_
        simp only [Act.put, List.getElem_toArray, List.getElem_cons_succ, List.getElem_cons_zero, List.setIfInBounds_toArray, List.set_cons_zero, List.set_cons_succ]
        refine wpAnyH_take (i := 16) (oi := _) (v := _) rfl (by kernel_rfl) (by kernel_rfl) (by kernel_rfl) (fun _ _ _ h => h) (Or.inr ⟨by kernel_rfl, rfl⟩) (by assumption) ?_
        simp only [Act.put, List.getElem_toArray, List.getElem_cons_succ, List.getElem_cons_zero, List.setIfInBounds_toArray, List.set_cons_zero, List.set_cons_succ]
        refine wpAnyH_take (i := 17) (oi := _) (v := _) rfl (by kernel_rfl) (by kernel_rfl) (by kernel_rfl) (fun _ _ _ h => h) (Or.inr ⟨by kernel_rfl, rfl⟩) (by assumption) ?_
        simp only [Act.put, List.getElem_toArray, List.getElem_cons_succ, List.getElem_cons_zero, List.setIfInBounds_toArray, List.set_cons_zero, List.set_cons_succ]
        refine wpAnyH_take (i := 18) (oi := _) (v := _) rfl (by kernel_rfl) (by kernel_rfl) (by kernel_rfl) (fun _ _ _ h => h) (Or.inr ⟨by kernel_rfl, rfl⟩) (by assumption) ?_
        simp only [Act.put, List.getElem_toArray, List.getElem_cons_succ, List.getElem_cons_zero, List.setIfInBounds_toArray, List.set_cons_zero, List.set_cons_succ]
        refine wpAnyH_take (i := 19) (oi := _) (v := _) rfl (by kernel_rfl) (by kernel_rfl) (by kernel_rfl) (fun _ _ _ h => h) (Or.inr ⟨by kernel_rfl, rfl⟩) (by assumption) ?_
        simp only [Act.put, List.getElem_toArray, List.getElem_cons_succ, List.getElem_cons_zero, List.setIfInBounds_toArray, List.set_cons_zero, List.set_cons_succ]
        refine wpAnyH_take (i := 20) (oi := _) (v := _) rfl (by kernel_rfl) (by kernel_rfl) (by kernel_rfl) (fun _ _ _ h => h) (Or.inr ⟨by kernel_rfl, rfl⟩) (by assumption) ?_
        simp only [Act.put, List.getElem_toArray, List.getElem_cons_succ, List.getElem_cons_zero, List.setIfInBounds_toArray, List.set_cons_zero, List.set_cons_succ]
        refine wpAnyH_take (i := 21) (oi := _) (v := ?_) rfl (by kernel_rfl) (by kernel_rfl) (by kernel_rfl) (fun _ _ _ h => h) (Or.inl ⟨by rfl, ?_⟩) (by assumption) ?_
        rotate_left
        · intro w hSw; clear hSw; first | (go_simp; done) | (go_simp; with_reducible rfl)
        simp only [Act.put, List.getElem_toArray, List.getElem_cons_succ, List.getElem_cons_zero, List.setIfInBounds_toArray, List.set_cons_zero, List.set_cons_succ]
        refine wpAnyH_done (by kernel_rfl) ?_ _
        refine NoPanic.normal ?_
        have hb3 := Below_then hb hHeld.2
        clear hHeld
        try (refine hK _ _ ?_; clear hK K)
        go_wp2
        go_ret
        exact ⟨retB (lsOk_no HX.out (by unfold okAt; rw [HX.out]; simp [← HQ.out])).symm, hb3⟩
      · cases k with
        | zero =>
          simp only [Nat.add_zero] at c1
          go_wp2_with fail
          refine wp_region_noPanic ?_
          refine wp_region_held_drew (S := (fun w' => w'.cell? ⟨b, off, none⟩ = some (.string x) ∧ Below wr.heap.size wr w')) (by kernel_rfl) ⟨c1, (Below.refl _ _).drew⟩ (fun hHeld => ?_)
          refine wpAnyH_take (i := 0) (oi := _) (v := ?_) rfl (by kernel_rfl) (by kernel_rfl) (by kernel_rfl) (fun _ _ _ h => h) (Or.inl ⟨by rfl, ?_⟩) (by assumption) ?_
          rotate_left
          · intro w hSw; clear hSw; first | (go_simp; done) | (go_simp; with_reducible rfl)
          simp only [Act.put, List.getElem_toArray, List.getElem_cons_succ, List.getElem_cons_zero, List.setIfInBounds_toArray, List.set_cons_zero, List.set_cons_succ]
          refine wpAnyH_take (i := 1) (oi := _) (v := ?_) rfl (by kernel_rfl) (by kernel_rfl) (by kernel_rfl) (fun _ _ _ h => h) (Or.inl ⟨by rfl, ?_⟩) (by assumption) ?_
          rotate_left
          · intro w hSw; clear hSw; first | (go_simp; done) | (go_simp; with_reducible rfl)
          simp only [Act.put, List.getElem_toArray, List.getElem_cons_succ, List.getElem_cons_zero, List.setIfInBounds_toArray, List.set_cons_zero, List.set_cons_succ]
          refine wpAnyH_take (i := 2) (oi := _) (v := ?_) rfl (by kernel_rfl) (by kernel_rfl) (by kernel_rfl) (fun _ _ _ h => h) (Or.inl ⟨by rfl, ?_⟩) (by assumption) ?_
          rotate_left
          · intro w hSw; clear hSw; first | (go_simp; done) | (go_simp; with_reducible rfl)
          simp only [Act.put, List.getElem_toArray, List.getElem_cons_succ, List.getElem_cons_zero, List.setIfInBounds_toArray, List.set_cons_zero, List.set_cons_succ]
          refine wpAnyH_take (i := 3) (oi := _) (v := ?_) rfl (by kernel_rfl) (by kernel_rfl) (by kernel_rfl) (fun _ _ _ h => h) (Or.inl ⟨by rfl, ?_⟩) (by assumption) ?_
          rotate_left
          · intro w hSw; (try dsimp only at hSw); first | (go_simp; done) | (go_simp; with_reducible rfl)
          simp only [Act.put, List.getElem_toArray, List.getElem_cons_succ, List.getElem_cons_zero, List.setIfInBounds_toArray, List.set_cons_zero, List.set_cons_succ]
          refine wpAnyH_ready (rs := [4]) (by kernel_rfl) (by simp) ?_
          refine AllReadyH.cons (o := _) rfl (fun K hK => ?_) AllReadyH.nil
          go_simp
          refine (KI.out _).mono ?_
          rintro e w2 ⟨rfl, hb2⟩
          go_wp2_with fail
          refine hK.out _ _ ⟨keep_cell hHeld.1 hb2, Below_then hHeld.2 hb2⟩ (fun hHeld => ?_)
          clear hK K
          try simp only [Act.put, List.getElem_toArray, List.getElem_cons_succ, List.getElem_cons_zero, List.setIfInBounds_toArray, List.set_cons_zero, List.set_cons_succ]
          refine wpAnyH_take (i := 5) (oi := _) (v := ?_) rfl (by kernel_rfl) (by kernel_rfl) (by kernel_rfl) (fun _ _ _ h => h) (Or.inl ⟨by rfl, ?_⟩) (by assumption) ?_
          rotate_left
          · intro w hSw; clear hSw; first | (go_simp; done) | (go_simp; with_reducible rfl)
          simp only [Act.put, List.getElem_toArray, List.getElem_cons_succ, List.getElem_cons_zero, List.setIfInBounds_toArray, List.set_cons_zero, List.set_cons_succ]
          refine wpAnyH_take (i := 6) (oi := _) (v := ?_) rfl (by kernel_rfl) (by kernel_rfl) (by kernel_rfl) (fun _ _ _ h => h) (Or.inl ⟨by rfl, ?_⟩) (by assumption) ?_
          rotate_left
          · intro w hSw; clear hSw; first | (go_simp; done) | (go_simp; with_reducible rfl)
          simp only [Act.put, List.getElem_toArray, List.getElem_cons_succ, List.getElem_cons_zero, List.setIfInBounds_toArray, List.set_cons_zero, List.set_cons_succ]
          refine wpAnyH_take (i := 7) (oi := _) (v := ?_) rfl (by kernel_rfl) (by kernel_rfl) (by kernel_rfl) (fun _ _ _ h => h) (Or.inl ⟨by rfl, ?_⟩) (by assumption) ?_
          rotate_left
          · intro w hSw; clear hSw; first | (go_simp; done) | (go_simp; with_reducible rfl)
          simp only [Act.put, List.getElem_toArray, List.getElem_cons_succ, List.getElem_cons_zero, List.setIfInBounds_toArray, List.set_cons_zero, List.set_cons_succ]
          refine wpAnyH_take (i := 8) (oi := _) (v := ?_) rfl (by kernel_rfl) (by kernel_rfl) (by kernel_rfl) (fun _ _ _ h => h) (Or.inl ⟨by rfl, ?_⟩) (by assumption) ?_
          rotate_left
          · intro w hSw; clear hSw; first | (go_simp; done) | (go_simp; with_reducible rfl)
          simp only [Act.put, List.getElem_toArray, List.getElem_cons_succ, List.getElem_cons_zero, List.setIfInBounds_toArray, List.set_cons_zero, List.set_cons_succ]
          refine wpAnyH_take (i := 9) (oi := _) (v := ?_) rfl (by kernel_rfl) (by kernel_rfl) (by kernel_rfl) (fun _ _ _ h => h) (Or.inl ⟨by rfl, ?_⟩) (by assumption) ?_
          rotate_left
          · intro w hSw; clear hSw; first | (go_simp; done) | (go_simp; with_reducible rfl)
          simp only [Act.put, List.getElem_toArray, List.getElem_cons_succ, List.getElem_cons_zero, List.setIfInBounds_toArray, List.set_cons_zero, List.set_cons_succ]
          refine wpAnyH_take (i := 10) (oi := _) (v := _) rfl (by kernel_rfl) (by kernel_rfl) (by kernel_rfl) (fun _ _ _ h => h) (Or.inr ⟨by kernel_rfl, rfl⟩) (by assumption) ?_
          simp only [Act.put, List.getElem_toArray, List.getElem_cons_succ, List.getElem_cons_zero, List.setIfInBounds_toArray, List.set_cons_zero, List.set_cons_succ]
          refine wpAnyH_take (i := 11) (oi := _) (v := _) rfl (by kernel_rfl) (by kernel_rfl) (by kernel_rfl) (fun _ _ _ h => h) (Or.inr ⟨by kernel_rfl, rfl⟩) (by assumption) ?_
          simp only [Act.put, List.getElem_toArray, List.getElem_cons_succ, List.getElem_cons_zero, List.setIfInBounds_toArray, List.set_cons_zero, List.set_cons_succ]
          refine wpAnyH_take (i := 12) (oi := _) (v := _) rfl (by kernel_rfl) (by kernel_rfl) (by kernel_rfl) (fun _ _ _ h => h) (Or.inr ⟨by kernel_rfl, rfl⟩) (by assumption) ?_
          simp only [Act.put, List.getElem_toArray, List.getElem_cons_succ, List.getElem_cons_zero, List.setIfInBounds_toArray, List.set_cons_zero, List.set_cons_succ]
          refine wpAnyH_take (i := 13) (oi := _) (v := _) rfl (by kernel_rfl) (by kernel_rfl) (by kernel_rfl) (fun _ _ _ h => h) (Or.inr ⟨by kernel_rfl, rfl⟩) (by assumption) ?_
          simp only [Act.put, List.getElem_toArray, List.getElem_cons_succ, List.getElem_cons_zero, List.setIfInBounds_toArray, List.set_cons_zero, List.set_cons_succ]
          refine wpAnyH_take (i := 14) (oi := _) (v := _) rfl (by kernel_rfl) (by kernel_rfl) (by kernel_rfl) (fun _ _ _ h => h) (Or.inr ⟨by kernel_rfl, rfl⟩) (by assumption) ?_
          simp only [Act.put, List.getElem_toArray, List.getElem_cons_succ, List.getElem_cons_zero, List.setIfInBounds_toArray, List.set_cons_zero, List.set_cons_succ]
          refine wpAnyH_take (i := 15) (oi := _) (v := _) rfl (by kernel_rfl) (by kernel_rfl) (by kernel_rfl) (fun _ _ _ h => h) (Or.inr ⟨by kernel_rfl, rfl⟩) (by assumption) ?_
          simp only [Act.put, List.getElem_toArray, List.getElem_cons_succ, List.getElem_cons_zero, List.setIfInBounds_toArray, List.set_cons_zero, List.set_cons_succ]
          refine wpAnyH_take (i := 16) (oi := _) (v := _) rfl (by kernel_rfl) (by kernel_rfl) (by kernel_rfl) (fun _ _ _ h => h) (Or.inr ⟨by kernel_rfl, rfl⟩) (by assumption) ?_
          simp only [Act.put, List.getElem_toArray, List.getElem_cons_succ, List.getElem_cons_zero, List.setIfInBounds_toArray, List.set_cons_zero, List.set_cons_succ]
          refine wpAnyH_take (i := 17) (oi := _) (v := _) rfl (by kernel_rfl) (by kernel_rfl) (by kernel_rfl) (fun _ _ _ h => h) (Or.inr ⟨by kernel_rfl, rfl⟩) (by assumption) ?_
          simp only [Act.put, List.getElem_toArray, List.getElem_cons_succ, List.getElem_cons_zero, List.setIfInBounds_toArray, List.set_cons_zero, List.set_cons_succ]
          refine wpAnyH_take (i := 18) (oi := _) (v := _) rfl (by kernel_rfl) (by kernel_rfl) (by kernel_rfl) (fun _ _ _ h => h) (Or.inr ⟨by kernel_rfl, rfl⟩) (by assumption) ?_
          simp only [Act.put, List.getElem_toArray, List.getElem_cons_succ, List.getElem_cons_zero, List.setIfInBounds_toArray, List.set_cons_zero, List.set_cons_succ]
          refine wpAnyH_take (i := 19) (oi := _) (v := _) rfl (by kernel_rfl) (by kernel_rfl) (by kernel_rfl) (fun _ _ _ h => h) (Or.inr ⟨by kernel_rfl, rfl⟩) (by assumption) ?_
          simp only [Act.put, List.getElem_toArray, List.getElem_cons_succ, List.getElem_cons_zero, List.setIfInBounds_toArray, List.set_cons_zero, List.set_cons_succ]
          refine wpAnyH_take (i := 20) (oi := _) (v := ?_) rfl (by kernel_rfl) (by kernel_rfl) (by kernel_rfl) (fun _ _ _ h => h) (Or.inl ⟨by rfl, ?_⟩) (by assumption) ?_
          rotate_left
          · intro w hSw; clear hSw; first | (go_simp; done) | (go_simp; with_reducible rfl)
          simp only [Act.put, List.getElem_toArray, List.getElem_cons_succ, List.getElem_cons_zero, List.setIfInBounds_toArray, List.set_cons_zero, List.set_cons_succ]
          refine wpAnyH_take (i := 21) (oi := _) (v := ?_) rfl (by kernel_rfl) (by kernel_rfl) (by kernel_rfl) (fun _ _ _ h => h) (Or.inl ⟨by rfl, ?_⟩) (by assumption) ?_
          rotate_left
          · intro w hSw; clear hSw; first | (go_simp; done) | (go_simp; with_reducible rfl)
          simp only [Act.put, List.getElem_toArray, List.getElem_cons_succ, List.getElem_cons_zero, List.setIfInBounds_toArray, List.set_cons_zero, List.set_cons_succ]
          refine wpAnyH_done (by kernel_rfl) ?_ _
          refine NoPanic.normal ?_
          have hb3 := Below_then hb hHeld.2
          clear hHeld
          try (refine hK _ _ ?_; clear hK K)
          go_wp2
          go_roundw
          case rel =>
            refine ⟨1, by omega, by go_num, fun j hj => ?_, hb3⟩
            obtain rfl : j = 0 := by omega
            unfold okAt
            rw [HX.out]
            simp [← HQ.out]
          case measure => simp [intOf]; omega
        | succ j =>
          obtain ⟨b', off', e1, c2, -⟩ := (h.below hb).at_ (show j < zs.length by omega)
          injection e1 with e1
          injection e1 with e1 e2
          subst e1 e2
          obtain ⟨y, hy⟩ : ∃ y, y = zs[j] := ⟨_, rfl⟩
          rw [← hy] at c2
          have hyj : zs[j]? = some y := by rw [hy]; exact List.getElem?_eq_getElem (by omega)
          have HY := Lib.hid hyj
          have f1 : (0 : Int) ≤ (j : Int) + 1 := by omega
          have f2 : (j : Int) + 1 < (zs.length : Int) := by omega
          have f3 : IntKind.i64.wrap (j : Int) = (j : Int) := by rw [IntKind.wrap_i64]; omega
          have f4 : (j : Int) < (zs.length : Int) := by omega
          have f5 : (0 : Int) < (j : Int) + 1 := by omega
          clear hy hyj
          cases hl : Op.bytesLess y.toList x.toList
          · have HL := Lib.hid hl
            go_wp2_with fail
            refine wp_region_noPanic ?_
            refine wp_region_held_drew (S := (fun w' => w'.cell? ⟨b, off + (j + 1), none⟩ = some (.string x) ∧ w'.cell? ⟨b, off + j, none⟩ = some (.string y) ∧ Below wr.heap.size wr w')) (by kernel_rfl) ⟨c1, c2, (Below.refl _ _).drew⟩ (fun hHeld => ?_)
            refine wpAnyH_take (i := 0) (oi := _) (v := ?_) rfl (by kernel_rfl) (by kernel_rfl) (by kernel_rfl) (fun _ _ _ h => h) (Or.inl ⟨by rfl, ?_⟩) (by assumption) ?_
            rotate_left
            · intro w hSw; clear hSw; first | (go_simp; done) | (go_simp; with_reducible rfl)
            simp only [Act.put, List.getElem_toArray, List.getElem_cons_succ, List.getElem_cons_zero, List.setIfInBounds_toArray, List.set_cons_zero, List.set_cons_succ]
            refine wpAnyH_take (i := 1) (oi := _) (v := ?_) rfl (by kernel_rfl) (by kernel_rfl) (by kernel_rfl) (fun _ _ _ h => h) (Or.inl ⟨by rfl, ?_⟩) (by assumption) ?_
            rotate_left
            · intro w hSw; clear hSw; first | (go_simp; done) | (go_simp; with_reducible rfl)
            simp only [Act.put, List.getElem_toArray, List.getElem_cons_succ, List.getElem_cons_zero, List.setIfInBounds_toArray, List.set_cons_zero, List.set_cons_succ]
            refine wpAnyH_take (i := 2) (oi := _) (v := ?_) rfl (by kernel_rfl) (by kernel_rfl) (by kernel_rfl) (fun _ _ _ h => h) (Or.inl ⟨by rfl, ?_⟩) (by assumption) ?_
            rotate_left
            · intro w hSw; clear hSw; first | (go_simp; done) | (go_simp; with_reducible rfl)
            simp only [Act.put, List.getElem_toArray, List.getElem_cons_succ, List.getElem_cons_zero, List.setIfInBounds_toArray, List.set_cons_zero, List.set_cons_succ]
            refine wpAnyH_take (i := 3) (oi := _) (v := ?_) rfl (by kernel_rfl) (by kernel_rfl) (by kernel_rfl) (fun _ _ _ h => h) (Or.inl ⟨by rfl, ?_⟩) (by assumption) ?_
            rotate_left
            · intro w hSw; (try dsimp only at hSw); first | (go_simp; done) | (go_simp; with_reducible rfl)
            simp only [Act.put, List.getElem_toArray, List.getElem_cons_succ, List.getElem_cons_zero, List.setIfInBounds_toArray, List.set_cons_zero, List.set_cons_succ]
            refine wpAnyH_ready (rs := [4]) (by kernel_rfl) (by simp) ?_
            refine AllReadyH.cons (o := _) rfl (fun K hK => ?_) AllReadyH.nil
            go_simp
            refine (KI.out _).mono ?_
            rintro e w2 ⟨rfl, hb2⟩
            go_wp2_with fail
            refine hK.out _ _ ⟨keep_cell hHeld.1 hb2, keep_cell hHeld.2.1 hb2, Below_then hHeld.2.2 hb2⟩ (fun hHeld => ?_)
            clear hK K
            try simp only [Act.put, List.getElem_toArray, List.getElem_cons_succ, List.getElem_cons_zero, List.setIfInBounds_toArray, List.set_cons_zero, List.set_cons_succ]
            refine wpAnyH_take (i := 5) (oi := _) (v := ?_) rfl (by kernel_rfl) (by kernel_rfl) (by kernel_rfl) (fun _ _ _ h => h) (Or.inl ⟨by rfl, ?_⟩) (by assumption) ?_
            rotate_left
            · intro w hSw; clear hSw; first | (go_simp; done) | (go_simp; with_reducible rfl)
            simp only [Act.put, List.getElem_toArray, List.getElem_cons_succ, List.getElem_cons_zero, List.setIfInBounds_toArray, List.set_cons_zero, List.set_cons_succ]
            refine wpAnyH_take (i := 6) (oi := _) (v := ?_) rfl (by kernel_rfl) (by kernel_rfl) (by kernel_rfl) (fun _ _ _ h => h) (Or.inl ⟨by rfl, ?_⟩) (by assumption) ?_
            rotate_left
            · intro w hSw; clear hSw; first | (go_simp; done) | (go_simp; with_reducible rfl)
            simp only [Act.put, List.getElem_toArray, List.getElem_cons_succ, List.getElem_cons_zero, List.setIfInBounds_toArray, List.set_cons_zero, List.set_cons_succ]
            refine wpAnyH_take (i := 7) (oi := _) (v := ?_) rfl (by kernel_rfl) (by kernel_rfl) (by kernel_rfl) (fun _ _ _ h => h) (Or.inl ⟨by rfl, ?_⟩) (by assumption) ?_
            rotate_left
            · intro w hSw; clear hSw; first | (go_simp; done) | (go_simp; with_reducible rfl)
            simp only [Act.put, List.getElem_toArray, List.getElem_cons_succ, List.getElem_cons_zero, List.setIfInBounds_toArray, List.set_cons_zero, List.set_cons_succ]
            refine wpAnyH_take (i := 8) (oi := _) (v := ?_) rfl (by kernel_rfl) (by kernel_rfl) (by kernel_rfl) (fun _ _ _ h => h) (Or.inl ⟨by rfl, ?_⟩) (by assumption) ?_
            rotate_left
            · intro w hSw; clear hSw; first | (go_simp; done) | (go_simp; with_reducible rfl)
            simp only [Act.put, List.getElem_toArray, List.getElem_cons_succ, List.getElem_cons_zero, List.setIfInBounds_toArray, List.set_cons_zero, List.set_cons_succ]
            refine wpAnyH_take (i := 9) (oi := _) (v := ?_) rfl (by kernel_rfl) (by kernel_rfl) (by kernel_rfl) (fun _ _ _ h => h) (Or.inl ⟨by rfl, ?_⟩) (by assumption) ?_
            rotate_left
            · intro w hSw; clear hSw; first | (go_simp; done) | (go_simp; with_reducible rfl)
            simp only [Act.put, List.getElem_toArray, List.getElem_cons_succ, List.getElem_cons_zero, List.setIfInBounds_toArray, List.set_cons_zero, List.set_cons_succ]
            refine wpAnyH_take (i := 10) (oi := _) (v := ?_) rfl (by kernel_rfl) (by kernel_rfl) (by kernel_rfl) (fun _ _ _ h => h) (Or.inl ⟨by rfl, ?_⟩) (by assumption) ?_
            rotate_left
            · intro w hSw; clear hSw; first | (go_simp; done) | (go_simp; with_reducible rfl)
            simp only [Act.put, List.getElem_toArray, List.getElem_cons_succ, List.getElem_cons_zero, List.setIfInBounds_toArray, List.set_cons_zero, List.set_cons_succ]
            refine wpAnyH_take (i := 11) (oi := _) (v := ?_) rfl (by kernel_rfl) (by kernel_rfl) (by kernel_rfl) (fun _ _ _ h => h) (Or.inl ⟨by rfl, ?_⟩) (by assumption) ?_
            rotate_left
            · intro w hSw; clear hSw; first | (go_simp; done) | (go_simp; with_reducible rfl)
            simp only [Act.put, List.getElem_toArray, List.getElem_cons_succ, List.getElem_cons_zero, List.setIfInBounds_toArray, List.set_cons_zero, List.set_cons_succ]
            refine wpAnyH_take (i := 12) (oi := _) (v := ?_) rfl (by kernel_rfl) (by kernel_rfl) (by kernel_rfl) (fun _ _ _ h => h) (Or.inl ⟨by rfl, ?_⟩) (by assumption) ?_
            rotate_left
            · intro w hSw; clear hSw; first | (go_simp; done) | (go_simp; with_reducible rfl)
            simp only [Act.put, List.getElem_toArray, List.getElem_cons_succ, List.getElem_cons_zero, List.setIfInBounds_toArray, List.set_cons_zero, List.set_cons_succ]
            refine wpAnyH_take (i := 13) (oi := _) (v := ?_) rfl (by kernel_rfl) (by kernel_rfl) (by kernel_rfl) (fun _ _ _ h => h) (Or.inl ⟨by rfl, ?_⟩) (by assumption) ?_
            rotate_left
            · intro w hSw; clear hSw; first | (go_simp; done) | (go_simp; with_reducible rfl)
            simp only [Act.put, List.getElem_toArray, List.getElem_cons_succ, List.getElem_cons_zero, List.setIfInBounds_toArray, List.set_cons_zero, List.set_cons_succ]
            refine wpAnyH_take (i := 14) (oi := _) (v := ?_) rfl (by kernel_rfl) (by kernel_rfl) (by kernel_rfl) (fun _ _ _ h => h) (Or.inl ⟨by rfl, ?_⟩) (by assumption) ?_
            rotate_left
            · intro w hSw; (try dsimp only at hSw); first | (go_simp; done) | (go_simp; with_reducible rfl)
            simp only [Act.put, List.getElem_toArray, List.getElem_cons_succ, List.getElem_cons_zero, List.setIfInBounds_toArray, List.set_cons_zero, List.set_cons_succ]
            refine wpAnyH_take (i := 15) (oi := _) (v := ?_) rfl (by kernel_rfl) (by kernel_rfl) (by kernel_rfl) (fun _ _ _ h => h) (Or.inl ⟨by rfl, ?_⟩) (by assumption) ?_
            rotate_left
            · intro w hSw; clear hSw; first | (go_simp; done) | (go_simp; with_reducible rfl)
            simp only [Act.put, List.getElem_toArray, List.getElem_cons_succ, List.getElem_cons_zero, List.setIfInBounds_toArray, List.set_cons_zero, List.set_cons_succ]
            refine wpAnyH_take (i := 16) (oi := _) (v := ?_) rfl (by kernel_rfl) (by kernel_rfl) (by kernel_rfl) (fun _ _ _ h => h) (Or.inl ⟨by rfl, ?_⟩) (by assumption) ?_
            rotate_left
            · intro w hSw; clear hSw; first | (go_simp; done) | (go_simp; with_reducible rfl)
            simp only [Act.put, List.getElem_toArray, List.getElem_cons_succ, List.getElem_cons_zero, List.setIfInBounds_toArray, List.set_cons_zero, List.set_cons_succ]
            refine wpAnyH_take (i := 17) (oi := _) (v := ?_) rfl (by kernel_rfl) (by kernel_rfl) (by kernel_rfl) (fun _ _ _ h => h) (Or.inl ⟨by rfl, ?_⟩) (by assumption) ?_
            rotate_left
            · intro w hSw; clear hSw; first | (go_simp; done) | (go_simp; with_reducible rfl)
            simp only [Act.put, List.getElem_toArray, List.getElem_cons_succ, List.getElem_cons_zero, List.setIfInBounds_toArray, List.set_cons_zero, List.set_cons_succ]
            refine wpAnyH_take (i := 18) (oi := _) (v := ?_) rfl (by kernel_rfl) (by kernel_rfl) (by kernel_rfl) (fun _ _ _ h => h) (Or.inl ⟨by rfl, ?_⟩) (by assumption) ?_
            rotate_left
            · intro w hSw; (try dsimp only at hSw); first | (go_simp; done) | (go_simp; with_reducible rfl)
            simp only [Act.put, List.getElem_toArray, List.getElem_cons_succ, List.getElem_cons_zero, List.setIfInBounds_toArray, List.set_cons_zero, List.set_cons_succ]
            refine wpAnyH_take (i := 19) (oi := _) (v := ?_) rfl (by kernel_rfl) (by kernel_rfl) (by kernel_rfl) (fun _ _ _ h => h) (Or.inl ⟨by rfl, ?_⟩) (by assumption) ?_
            rotate_left
            · intro w hSw; clear hSw; first | (go_simp; done) | (go_simp; with_reducible rfl)
            simp only [Act.put, List.getElem_toArray, List.getElem_cons_succ, List.getElem_cons_zero, List.setIfInBounds_toArray, List.set_cons_zero, List.set_cons_succ]
            refine wpAnyH_take (i := 20) (oi := _) (v := ?_) rfl (by kernel_rfl) (by kernel_rfl) (by kernel_rfl) (fun _ _ _ h => h) (Or.inl ⟨by rfl, ?_⟩) (by assumption) ?_
            rotate_left
            · intro w hSw; clear hSw; first | (go_simp; done) | (go_simp; with_reducible rfl)
            simp only [Act.put, List.getElem_toArray, List.getElem_cons_succ, List.getElem_cons_zero, List.setIfInBounds_toArray, List.set_cons_zero, List.set_cons_succ]
            refine wpAnyH_take (i := 21) (oi := _) (v := ?_) rfl (by kernel_rfl) (by kernel_rfl) (by kernel_rfl) (fun _ _ _ h => h) (Or.inl ⟨by rfl, ?_⟩) (by assumption) ?_
            rotate_left
            · intro w hSw; clear hSw; first | (go_simp; done) | (go_simp; with_reducible rfl)
            simp only [Act.put, List.getElem_toArray, List.getElem_cons_succ, List.getElem_cons_zero, List.setIfInBounds_toArray, List.set_cons_zero, List.set_cons_succ]
            refine wpAnyH_done (by kernel_rfl) ?_ _
            refine NoPanic.normal ?_
            have hb3 := Below_then hb hHeld.2.2
            clear hHeld
            try (refine hK _ _ ?_; clear hK K)
            go_wp2
            go_ret
            exact ⟨retB (lsOk_no HX.out (by unfold okAt; rw [HX.out, Nat.add_sub_cancel, HY.out]; simp [← HQ.out]; exact HL.out)).symm, hb3⟩
          · have HL := Lib.hid hl
            go_wp2_with fail
            refine wp_region_noPanic ?_
            refine wp_region_held_drew (S := (fun w' => w'.cell? ⟨b, off + (j + 1), none⟩ = some (.string x) ∧ w'.cell? ⟨b, off + j, none⟩ = some (.string y) ∧ Below wr.heap.size wr w')) (by kernel_rfl) ⟨c1, c2, (Below.refl _ _).drew⟩ (fun hHeld => ?_)
            refine wpAnyH_take (i := 0) (oi := _) (v := ?_) rfl (by kernel_rfl) (by kernel_rfl) (by kernel_rfl) (fun _ _ _ h => h) (Or.inl ⟨by rfl, ?_⟩) (by assumption) ?_
            rotate_left
            · intro w hSw; clear hSw; first | (go_simp; done) | (go_simp; with_reducible rfl)
            simp only [Act.put, List.getElem_toArray, List.getElem_cons_succ, List.getElem_cons_zero, List.setIfInBounds_toArray, List.set_cons_zero, List.set_cons_succ]
            refine wpAnyH_take (i := 1) (oi := _) (v := ?_) rfl (by kernel_rfl) (by kernel_rfl) (by kernel_rfl) (fun _ _ _ h => h) (Or.inl ⟨by rfl, ?_⟩) (by assumption) ?_
            rotate_left
            · intro w hSw; clear hSw; first | (go_simp; done) | (go_simp; with_reducible rfl)
            simp only [Act.put, List.getElem_toArray, List.getElem_cons_succ, List.getElem_cons_zero, List.setIfInBounds_toArray, List.set_cons_zero, List.set_cons_succ]
            refine wpAnyH_take (i := 2) (oi := _) (v := ?_) rfl (by kernel_rfl) (by kernel_rfl) (by kernel_rfl) (fun _ _ _ h => h) (Or.inl ⟨by rfl, ?_⟩) (by assumption) ?_
            rotate_left
            · intro w hSw; clear hSw; first | (go_simp; done) | (go_simp; with_reducible rfl)
            simp only [Act.put, List.getElem_toArray, List.getElem_cons_succ, List.getElem_cons_zero, List.setIfInBounds_toArray, List.set_cons_zero, List.set_cons_succ]
            refine wpAnyH_take (i := 3) (oi := _) (v := ?_) rfl (by kernel_rfl) (by kernel_rfl) (by kernel_rfl) (fun _ _ _ h => h) (Or.inl ⟨by rfl, ?_⟩) (by assumption) ?_
            rotate_left
            · intro w hSw; (try dsimp only at hSw); first | (go_simp; done) | (go_simp; with_reducible rfl)
            simp only [Act.put, List.getElem_toArray, List.getElem_cons_succ, List.getElem_cons_zero, List.setIfInBounds_toArray, List.set_cons_zero, List.set_cons_succ]
            refine wpAnyH_ready (rs := [4]) (by kernel_rfl) (by simp) ?_
            refine AllReadyH.cons (o := _) rfl (fun K hK => ?_) AllReadyH.nil
            go_simp
            refine (KI.out _).mono ?_
            rintro e w2 ⟨rfl, hb2⟩
            go_wp2_with fail
            refine hK.out _ _ ⟨keep_cell hHeld.1 hb2, keep_cell hHeld.2.1 hb2, Below_then hHeld.2.2 hb2⟩ (fun hHeld => ?_)
            clear hK K
            try simp only [Act.put, List.getElem_toArray, List.getElem_cons_succ, List.getElem_cons_zero, List.setIfInBounds_toArray, List.set_cons_zero, List.set_cons_succ]
            refine wpAnyH_take (i := 5) (oi := _) (v := ?_) rfl (by kernel_rfl) (by kernel_rfl) (by kernel_rfl) (fun _ _ _ h => h) (Or.inl ⟨by rfl, ?_⟩) (by assumption) ?_
            rotate_left
            · intro w hSw; clear hSw; first | (go_simp; done) | (go_simp; with_reducible rfl)
            simp only [Act.put, List.getElem_toArray, List.getElem_cons_succ, List.getElem_cons_zero, List.setIfInBounds_toArray, List.set_cons_zero, List.set_cons_succ]
            refine wpAnyH_take (i := 6) (oi := _) (v := ?_) rfl (by kernel_rfl) (by kernel_rfl) (by kernel_rfl) (fun _ _ _ h => h) (Or.inl ⟨by rfl, ?_⟩) (by assumption) ?_
            rotate_left
            · intro w hSw; clear hSw; first | (go_simp; done) | (go_simp; with_reducible rfl)
            simp only [Act.put, List.getElem_toArray, List.getElem_cons_succ, List.getElem_cons_zero, List.setIfInBounds_toArray, List.set_cons_zero, List.set_cons_succ]
            refine wpAnyH_take (i := 7) (oi := _) (v := ?_) rfl (by kernel_rfl) (by kernel_rfl) (by kernel_rfl) (fun _ _ _ h => h) (Or.inl ⟨by rfl, ?_⟩) (by assumption) ?_
            rotate_left
            · intro w hSw; clear hSw; first | (go_simp; done) | (go_simp; with_reducible rfl)
            simp only [Act.put, List.getElem_toArray, List.getElem_cons_succ, List.getElem_cons_zero, List.setIfInBounds_toArray, List.set_cons_zero, List.set_cons_succ]
            refine wpAnyH_take (i := 8) (oi := _) (v := ?_) rfl (by kernel_rfl) (by kernel_rfl) (by kernel_rfl) (fun _ _ _ h => h) (Or.inl ⟨by rfl, ?_⟩) (by assumption) ?_
            rotate_left
            · intro w hSw; clear hSw; first | (go_simp; done) | (go_simp; with_reducible rfl)
            simp only [Act.put, List.getElem_toArray, List.getElem_cons_succ, List.getElem_cons_zero, List.setIfInBounds_toArray, List.set_cons_zero, List.set_cons_succ]
            refine wpAnyH_take (i := 9) (oi := _) (v := ?_) rfl (by kernel_rfl) (by kernel_rfl) (by kernel_rfl) (fun _ _ _ h => h) (Or.inl ⟨by rfl, ?_⟩) (by assumption) ?_
            rotate_left
            · intro w hSw; clear hSw; first | (go_simp; done) | (go_simp; with_reducible rfl)
            simp only [Act.put, List.getElem_toArray, List.getElem_cons_succ, List.getElem_cons_zero, List.setIfInBounds_toArray, List.set_cons_zero, List.set_cons_succ]
            refine wpAnyH_take (i := 10) (oi := _) (v := ?_) rfl (by kernel_rfl) (by kernel_rfl) (by kernel_rfl) (fun _ _ _ h => h) (Or.inl ⟨by rfl, ?_⟩) (by assumption) ?_
            rotate_left
            · intro w hSw; clear hSw; first | (go_simp; done) | (go_simp; with_reducible rfl)
            simp only [Act.put, List.getElem_toArray, List.getElem_cons_succ, List.getElem_cons_zero, List.setIfInBounds_toArray, List.set_cons_zero, List.set_cons_succ]
            refine wpAnyH_take (i := 11) (oi := _) (v := ?_) rfl (by kernel_rfl) (by kernel_rfl) (by kernel_rfl) (fun _ _ _ h => h) (Or.inl ⟨by rfl, ?_⟩) (by assumption) ?_
            rotate_left
            · intro w hSw; clear hSw; first | (go_simp; done) | (go_simp; with_reducible rfl)
            simp only [Act.put, List.getElem_toArray, List.getElem_cons_succ, List.getElem_cons_zero, List.setIfInBounds_toArray, List.set_cons_zero, List.set_cons_succ]
            refine wpAnyH_take (i := 12) (oi := _) (v := ?_) rfl (by kernel_rfl) (by kernel_rfl) (by kernel_rfl) (fun _ _ _ h => h) (Or.inl ⟨by rfl, ?_⟩) (by assumption) ?_
            rotate_left
            · intro w hSw; clear hSw; first | (go_simp; done) | (go_simp; with_reducible rfl)
            simp only [Act.put, List.getElem_toArray, List.getElem_cons_succ, List.getElem_cons_zero, List.setIfInBounds_toArray, List.set_cons_zero, List.set_cons_succ]
            refine wpAnyH_take (i := 13) (oi := _) (v := ?_) rfl (by kernel_rfl) (by kernel_rfl) (by kernel_rfl) (fun _ _ _ h => h) (Or.inl ⟨by rfl, ?_⟩) (by assumption) ?_
            rotate_left
            · intro w hSw; clear hSw; first | (go_simp; done) | (go_simp; with_reducible rfl)
            simp only [Act.put, List.getElem_toArray, List.getElem_cons_succ, List.getElem_cons_zero, List.setIfInBounds_toArray, List.set_cons_zero, List.set_cons_succ]
            refine wpAnyH_take (i := 14) (oi := _) (v := ?_) rfl (by kernel_rfl) (by kernel_rfl) (by kernel_rfl) (fun _ _ _ h => h) (Or.inl ⟨by rfl, ?_⟩) (by assumption) ?_
            rotate_left
            · intro w hSw; (try dsimp only at hSw); first | (go_simp; done) | (go_simp; with_reducible rfl)
            simp only [Act.put, List.getElem_toArray, List.getElem_cons_succ, List.getElem_cons_zero, List.setIfInBounds_toArray, List.set_cons_zero, List.set_cons_succ]
            refine wpAnyH_take (i := 15) (oi := _) (v := ?_) rfl (by kernel_rfl) (by kernel_rfl) (by kernel_rfl) (fun _ _ _ h => h) (Or.inl ⟨by rfl, ?_⟩) (by assumption) ?_
            rotate_left
            · intro w hSw; clear hSw; first | (go_simp; done) | (go_simp; with_reducible rfl)
            simp only [Act.put, List.getElem_toArray, List.getElem_cons_succ, List.getElem_cons_zero, List.setIfInBounds_toArray, List.set_cons_zero, List.set_cons_succ]
            refine wpAnyH_take (i := 16) (oi := _) (v := ?_) rfl (by kernel_rfl) (by kernel_rfl) (by kernel_rfl) (fun _ _ _ h => h) (Or.inl ⟨by rfl, ?_⟩) (by assumption) ?_
            rotate_left
            · intro w hSw; clear hSw; first | (go_simp; done) | (go_simp; with_reducible rfl)
            simp only [Act.put, List.getElem_toArray, List.getElem_cons_succ, List.getElem_cons_zero, List.setIfInBounds_toArray, List.set_cons_zero, List.set_cons_succ]
            refine wpAnyH_take (i := 17) (oi := _) (v := ?_) rfl (by kernel_rfl) (by kernel_rfl) (by kernel_rfl) (fun _ _ _ h => h) (Or.inl ⟨by rfl, ?_⟩) (by assumption) ?_
            rotate_left
            · intro w hSw; clear hSw; first | (go_simp; done) | (go_simp; with_reducible rfl)
            simp only [Act.put, List.getElem_toArray, List.getElem_cons_succ, List.getElem_cons_zero, List.setIfInBounds_toArray, List.set_cons_zero, List.set_cons_succ]
            refine wpAnyH_take (i := 18) (oi := _) (v := ?_) rfl (by kernel_rfl) (by kernel_rfl) (by kernel_rfl) (fun _ _ _ h => h) (Or.inl ⟨by rfl, ?_⟩) (by assumption) ?_
            rotate_left
            · intro w hSw; (try dsimp only at hSw); first | (go_simp; done) | (go_simp; with_reducible rfl)
            simp only [Act.put, List.getElem_toArray, List.getElem_cons_succ, List.getElem_cons_zero, List.setIfInBounds_toArray, List.set_cons_zero, List.set_cons_succ]
            refine wpAnyH_take (i := 19) (oi := _) (v := ?_) rfl (by kernel_rfl) (by kernel_rfl) (by kernel_rfl) (fun _ _ _ h => h) (Or.inl ⟨by rfl, ?_⟩) (by assumption) ?_
            rotate_left
            · intro w hSw; clear hSw; first | (go_simp; done) | (go_simp; with_reducible rfl)
            simp only [Act.put, List.getElem_toArray, List.getElem_cons_succ, List.getElem_cons_zero, List.setIfInBounds_toArray, List.set_cons_zero, List.set_cons_succ]
            refine wpAnyH_take (i := 20) (oi := _) (v := ?_) rfl (by kernel_rfl) (by kernel_rfl) (by kernel_rfl) (fun _ _ _ h => h) (Or.inl ⟨by rfl, ?_⟩) (by assumption) ?_
            rotate_left
            · intro w hSw; clear hSw; first | (go_simp; done) | (go_simp; with_reducible rfl)
            simp only [Act.put, List.getElem_toArray, List.getElem_cons_succ, List.getElem_cons_zero, List.setIfInBounds_toArray, List.set_cons_zero, List.set_cons_succ]
            refine wpAnyH_take (i := 21) (oi := _) (v := ?_) rfl (by kernel_rfl) (by kernel_rfl) (by kernel_rfl) (fun _ _ _ h => h) (Or.inl ⟨by rfl, ?_⟩) (by assumption) ?_
            rotate_left
            · intro w hSw; clear hSw; first | (go_simp; done) | (go_simp; with_reducible rfl)
            simp only [Act.put, List.getElem_toArray, List.getElem_cons_succ, List.getElem_cons_zero, List.setIfInBounds_toArray, List.set_cons_zero, List.set_cons_succ]
            refine wpAnyH_done (by kernel_rfl) ?_ _
            refine NoPanic.normal ?_
            have hb3 := Below_then hb hHeld.2.2
            clear hHeld
            try (refine hK _ _ ?_; clear hK K)
            go_wp2
            go_roundw
            case rel =>
              refine ⟨j + 2, by omega, by go_num, fun i hi => ?_, hb3⟩
              by_cases e : i = j + 1
              · subst e
                unfold okAt
                rw [HX.out, Nat.add_sub_cancel, HY.out]
                simp [← HQ.out]
                exact HL.out
              · exact HA.out i (by omega)
            case measure => simp [intOf]; omega
    · obtain rfl : k = zs.length := by omega
      have d1 : decide (zs.length < zs.length) = false := by simp
      have e : lsOk zs = decide (zs.length ≤ 10) := lsOk_len HA.out
      have HE := Lib.hid e
      clear e
      by_cases h10 : zs.length ≤ 10
      · have g1 : (zs.length : Int) ≤ 10 := by omega
        go_wp2
        go_ret
        exact ⟨retB (by rw [HE.out]; simpa using h10), hb⟩
      · have g1 : ¬ (zs.length : Int) ≤ 10 := by omega
        go_wp2
        go_ret
        exact ⟨retB (by rw [HE.out]; simpa using h10), hb⟩
set_option maxHeartbeats 2000000 in
theorem l17Has_any (A : Option Addr) (c : Nat) (zs : List ByteArray) (s : ByteArray) (w : World) (h : RdS w A zs) (hx : zs.length ≤ 1048576) :
    Calls Tryz.prog 51 #[.slice A zs.length c, .string s] w fun e w' => e = .returned (.bool (hasB zs s)) ∧ w = w' := by
  go_enter Tryz.func51, Tryz.ntmps51
  go_wp2_with fail
  go_loopw [5] (fun i wr => ∃ k : Nat, k ≤ zs.length ∧ i = .int .i64 k ∧ (∀ j x, j < k → zs[j]? = some x → x ≠ s) ∧ w = wr) (fun i _ => zs.length - (intOf i).toNat)
  case atStart => exact ⟨0, Nat.zero_le _, rfl, fun j _ hj => absurd hj (by omega), rfl⟩
  case round =>
    obtain ⟨k, hk, rfl, hall, rfl⟩ := hrel
    have HA := Lib.hid hall
    clear hall
    by_cases hlt : k < zs.length
    · obtain ⟨b, off, rfl, c1, -⟩ := h.at_ hlt
      obtain ⟨x, hx⟩ : ∃ x, x = zs[k] := ⟨_, rfl⟩
      rw [← hx] at c1
      have hxk : zs[k]? = some x := by rw [hx]; exact List.getElem?_eq_getElem hlt
      have HX := Lib.hid hxk
      have i1 : (k : Int) < (zs.length : Int) := by omega
      have d1 : decide (k < zs.length) = true := by simpa using hlt
      clear hx hxk
      by_cases he : x = s
      · have g1 : (x.toList == s.toList) = true := eqS_iff.2 he
        have HE := Lib.hid he
        clear he
        go_wp2
        go_ret
        exact ⟨retB (hasB_iff.2 (by rw [← HE.out]; exact List.mem_of_getElem? HX.out)).symm, rfl⟩
      · have g1 : (x.toList == s.toList) = false := eqS_ne he
        have HE := Lib.hid he
        clear he
        go_wp2
        go_roundw
        case rel =>
          refine ⟨k + 1, by omega, by go_num, fun j x' hj hx' => ?_, by first | trivial | rfl⟩
          by_cases e : j = k
          · subst e
            rw [HX.out] at hx'
            injection hx' with hx'
            subst hx'
            exact HE.out
          · exact HA.out j x' (by omega) hx'
        case measure => simp [intOf]; omega
    · obtain rfl : k = zs.length := by omega
      have d1 : decide (zs.length < zs.length) = false := by simp
      go_wp2
      go_ret
      refine ⟨retB ?_, rfl⟩
      symm
      rw [Bool.eq_false_iff]
      intro hh
      obtain ⟨j, hj⟩ := List.getElem?_of_mem (hasB_iff.1 hh)
      exact HA.out j s (List.getElem?_eq_some_iff.1 hj).1 hj rfl
end Go.Proofs.YtmjgogklalploaaGreatDoor
/-! ### Cnt -/
namespace Go.Proofs.YtmjgogklalploaaGreatDoor
open Go.ChangeShapes Go.WideShapes Go.ChangeAt Go.RowKit
set_option linter.unusedVariables false
set_option linter.unusedSimpArgs false
def cnt (a : ArmsD) (zs : List ByteArray) : Int := ((zs.filter (hasB (featL a))).length : Nat)
theorem num0 (w : World) : Calls Tryz.prog 82 #[.bool false] w fun e w' => e = .returned (.int .i64 0) ∧ w' = w := by
  go_enter Tryz.func82, Tryz.ntmps82
  go_wp2
  go_ret
  exact ⟨rfl, rfl⟩
theorem num1 (w : World) : Calls Tryz.prog 82 #[.bool true] w fun e w' => e = .returned (.int .i64 1) ∧ w' = w := by
  go_enter Tryz.func82, Tryz.ntmps82
  go_wp2
  go_ret
  exact ⟨rfl, rfl⟩
set_option maxHeartbeats 4000000 in
theorem shared_any (a : ArmsD) (ga : armsOk a = true) (A : Option Addr) (c : Nat) (zs : List ByteArray) (w : World) (h : RdS w A zs) (hx : zs.length ≤ 1048576) :
    Calls Tryz.prog 43 #[.agg (ac a).toArray, .slice A zs.length c] w fun e w' => e = .returned (.int .i64 (cnt a zs)) ∧ Below w.heap.size w w' := by
  have HB := Lib.hid (fun w' hb => boxR a (w := w) (w' := w') hb)
  have hW : Below w.heap.size w (w.alloc (.cells (ac a).toArray 42)) := Below_al (Below.refl _ _) _
  have KF := Lib.hid (fun w => features_any a ga w)
  have HFL := Lib.hid (featL_len a)
  unfold cnt
  clear ga
  obtain ⟨fs, hfs⟩ : ∃ fs, fs = featL a := ⟨_, rfl⟩
  rw [← hfs] at KF HFL
  rw [← hfs]
  clear hfs
  go_enter Tryz.func43, Tryz.ntmps43
  go_wp2_with (first | (refine ldA15 rfl _ rfl w.heap.size _ rfl a (HB.out _ (Below.refl _ _)) ?_) | fail)
  refine (KF.out _).mono ?_
  rintro e w1 ⟨v, rfl, hO, hb1⟩
  obtain ⟨A', c', rfl, hr⟩ := hO.form
  have hT := Below_then hW hb1
  have hz := h.below hT
  clear hb1 hW hO
  go_wp2_with fail
  go_loopw [5, 13] (fun n i wr => ∃ k : Nat, k ≤ zs.length ∧ i = .int .i64 k ∧ n = .int .i64 (((zs.take k).filter (hasB fs)).length : Nat) ∧ w1 = wr) (fun _ i _ => zs.length - (intOf i).toNat)
  case atStart => exact ⟨0, Nat.zero_le _, rfl, by simp, rfl⟩
  case round =>
    obtain ⟨k, hk, rfl, rfl, rfl⟩ := hrel
    by_cases hlt : k < zs.length
    · obtain ⟨b, off, rfl, c1, -⟩ := hz.at_ hlt
      obtain ⟨x, hxk⟩ : ∃ x, x = zs[k] := ⟨_, rfl⟩
      rw [← hxk] at c1
      have hst : (zs.take (k + 1)).filter (hasB fs) = (zs.take k).filter (hasB fs) ++ [x].filter (hasB fs) := by rw [List.take_succ_eq_append_getElem hlt, List.filter_append, hxk]
      have hln : ((zs.take k).filter (hasB fs)).length ≤ k := by
        have h1 := List.length_filter_le (hasB fs) (zs.take k)
        rw [List.length_take] at h1
        omega
      have hle : ((zs.take (k + 1)).filter (hasB fs)).length = ((zs.take k).filter (hasB fs)).length + ([x].filter (hasB fs)).length := by rw [hst, List.length_append]
      obtain ⟨m, hm⟩ : ∃ m, m = ((zs.take k).filter (hasB fs)).length := ⟨_, rfl⟩
      rw [← hm] at hln hle ⊢
      have HLE := Lib.hid hle
      have i1 : (k : Int) < (zs.length : Int) := by omega
      have d1 : decide (k < zs.length) = true := by simpa using hlt
      have KH := hasS_any A' c' fs x _ hr (by have := HFL.out; omega)
      obtain ⟨q, hq⟩ : ∃ q, q = hasB fs x := ⟨_, rfl⟩
      rw [← hq] at KH
      have KH := Lib.hid KH
      have HQ := Lib.hid hq
      clear hq hxk hst hm hle
      cases q
      · skip
        go_wp2_with fail
        refine KH.out.mono ?_
        rintro e w9 ⟨rfl, rfl⟩
        go_wp2_with fail
        refine (num0 _).mono ?_
        rintro e w9 ⟨rfl, rfl⟩
        go_wp2
        go_roundw
        case rel => exact ⟨k + 1, by omega, by go_num, by rw [HLE.out]; simp [← HQ.out], (by first | trivial | rfl)⟩
        case measure => simp [intOf]; omega
      · skip
        go_wp2_with fail
        refine KH.out.mono ?_
        rintro e w9 ⟨rfl, rfl⟩
        go_wp2_with fail
        refine (num1 _).mono ?_
        rintro e w9 ⟨rfl, rfl⟩
        go_wp2
        go_roundw
        case rel => exact ⟨k + 1, by omega, by go_num, by rw [HLE.out]; simp [← HQ.out], (by first | trivial | rfl)⟩
        case measure => simp [intOf]; omega
    · obtain rfl : k = zs.length := by omega
      have d1 : decide (zs.length < zs.length) = false := by simp
      rw [List.take_length]
      go_wp2
      go_ret
      exact ⟨rfl, hT⟩
set_option maxHeartbeats 4000000 in
theorem l17Count_any (a : ArmsD) (ga : armsOk a = true) (A : Option Addr) (c : Nat) (zs : List ByteArray) (w : World) (h : RdS w A zs) (hx : zs.length ≤ 1048576) :
    Calls Tryz.prog 64 #[.agg (ac a).toArray, .slice A zs.length c] w fun e w' => e = .returned (.int .i64 (cnt a zs)) ∧ Below w.heap.size w w' := by
  have HB := Lib.hid (fun w' hb => boxR a (w := w) (w' := w') hb)
  have hW : Below w.heap.size w (w.alloc (.cells (ac a).toArray 42)) := Below_al (Below.refl _ _) _
  have KF := Lib.hid (fun w => l17Features_any a ga w)
  have HFL := Lib.hid (featL_len a)
  unfold cnt
  clear ga
  obtain ⟨fs, hfs⟩ : ∃ fs, fs = featL a := ⟨_, rfl⟩
  rw [← hfs] at KF HFL
  rw [← hfs]
  clear hfs
  go_enter Tryz.func64, Tryz.ntmps64
  go_wp2_with (first | (refine ldA15 rfl _ rfl w.heap.size _ rfl a (HB.out _ (Below.refl _ _)) ?_) | fail)
  refine (KF.out _).mono ?_
  rintro e w1 ⟨v, rfl, hO, hb1⟩
  obtain ⟨A', c', rfl, hr⟩ := hO.form
  have hT := Below_then hW hb1
  have hz := h.below hT
  clear hb1 hW hO
  go_wp2_with fail
  go_loopw [5, 7] (fun n i wr => ∃ k : Nat, k ≤ zs.length ∧ i = .int .i64 k ∧ n = .int .i64 (((zs.take k).filter (hasB fs)).length : Nat) ∧ w1 = wr) (fun _ i _ => zs.length - (intOf i).toNat)
  case atStart => exact ⟨0, Nat.zero_le _, rfl, by simp, rfl⟩
  case round =>
    obtain ⟨k, hk, rfl, rfl, rfl⟩ := hrel
    by_cases hlt : k < zs.length
    · obtain ⟨b, off, rfl, c1, -⟩ := hz.at_ hlt
      obtain ⟨x, hxk⟩ : ∃ x, x = zs[k] := ⟨_, rfl⟩
      rw [← hxk] at c1
      have hst : (zs.take (k + 1)).filter (hasB fs) = (zs.take k).filter (hasB fs) ++ [x].filter (hasB fs) := by rw [List.take_succ_eq_append_getElem hlt, List.filter_append, hxk]
      have hln : ((zs.take k).filter (hasB fs)).length ≤ k := by
        have h1 := List.length_filter_le (hasB fs) (zs.take k)
        rw [List.length_take] at h1
        omega
      have hle : ((zs.take (k + 1)).filter (hasB fs)).length = ((zs.take k).filter (hasB fs)).length + ([x].filter (hasB fs)).length := by rw [hst, List.length_append]
      obtain ⟨m, hm⟩ : ∃ m, m = ((zs.take k).filter (hasB fs)).length := ⟨_, rfl⟩
      rw [← hm] at hln hle ⊢
      have HLE := Lib.hid hle
      have i1 : (k : Int) < (zs.length : Int) := by omega
      have d1 : decide (k < zs.length) = true := by simpa using hlt
      have KH := l17Has_any A' c' fs x _ hr (by have := HFL.out; omega)
      obtain ⟨q, hq⟩ : ∃ q, q = hasB fs x := ⟨_, rfl⟩
      rw [← hq] at KH
      have KH := Lib.hid KH
      have HQ := Lib.hid hq
      clear hq hxk hst hm hle
      cases q
      · skip
        go_wp2_with fail
        refine KH.out.mono ?_
        rintro e w9 ⟨rfl, rfl⟩
        go_wp2
        go_roundw
        case rel => exact ⟨k + 1, by omega, by go_num, by rw [HLE.out]; simp [← HQ.out], (by first | trivial | rfl)⟩
        case measure => simp [intOf]; omega
      · skip
        go_wp2_with fail
        refine KH.out.mono ?_
        rintro e w9 ⟨rfl, rfl⟩
        go_wp2
        go_roundw
        case rel => exact ⟨k + 1, by omega, by go_num, by rw [HLE.out]; simp [← HQ.out], (by first | trivial | rfl)⟩
        case measure => simp [intOf]; omega
    · obtain rfl : k = zs.length := by omega
      have d1 : decide (zs.length < zs.length) = false := by simp
      rw [List.take_length]
      go_wp2
      go_ret
      exact ⟨rfl, hT⟩
end Go.Proofs.YtmjgogklalploaaGreatDoor
/-! ### Look -/
namespace Go.Proofs.YtmjgogklalploaaGreatDoor
open Go.ChangeShapes Go.WideShapes Go.ChangeAt Go.RowKit
set_option linter.unusedVariables false
set_option linter.unusedSimpArgs false
theorem lookL_len (rows : List GrantD) (zs : List ByteArray) : (bif regOk rows && lsOk zs then nums rows (fun g => decide (cnt g.a zs = zs.length)) else []).length ≤ rows.length := by
  cases regOk rows && lsOk zs
  · simp
  · exact nums_len rows _
end Go.Proofs.YtmjgogklalploaaGreatDoor
/-! ### Rank -/
namespace Go.Proofs.YtmjgogklalploaaGreatDoor
section
variable {α : Type} (f : α → Int)
/-- The rows whose number is v. -/
def at_ (v : Int) (l : List α) : List α := l.filter fun g => decide (f g = v)
def desc (l : List α) : Prop := l.Pairwise fun a b => f b ≤ f a
theorem at_mem {v : Int} {l : List α} {x : α} : x ∈ at_ f v l ↔ x ∈ l ∧ f x = v := by simp [at_]
theorem mem_of_at {l l' : List α} (h : ∀ v, at_ f v l = at_ f v l') {x : α} (hx : x ∈ l) : x ∈ l' := by
  have : x ∈ at_ f (f x) l := (at_mem f).2 ⟨hx, rfl⟩
  rw [h] at this
  exact ((at_mem f).1 this).1
theorem desc_unique : ∀ (l l' : List α), desc f l → desc f l' → (∀ v, at_ f v l = at_ f v l') → l = l'
  | [], [], _, _, _ => rfl
  | [], b :: t, _, _, h => by have := mem_of_at f (fun v => (h v).symm) (List.mem_cons_self (a := b) (l := t)); simp at this
  | a :: t, [], _, _, h => by have := mem_of_at f h (List.mem_cons_self (a := a) (l := t)); simp at this
  | a :: t, b :: t', h1, h2, h => by
    have ha := mem_of_at f h (List.mem_cons_self (a := a) (l := t))
    have hb := mem_of_at f (fun v => (h v).symm) (List.mem_cons_self (a := b) (l := t'))
    have e1 : f a ≤ f b := by
      rcases List.mem_cons.1 ha with e | e
      · rw [e]; exact Int.le_refl _
      · exact List.rel_of_pairwise_cons h2 e
    have e2 : f b ≤ f a := by
      rcases List.mem_cons.1 hb with e | e
      · rw [e]; exact Int.le_refl _
      · exact List.rel_of_pairwise_cons h1 e
    have e3 : f a = f b := by omega
    have hv := h (f a)
    unfold at_ at hv
    rw [List.filter_cons_of_pos (by simp), List.filter_cons_of_pos (by simp [e3])] at hv
    injection hv with hab hv
    subst hab
    have ht := desc_unique t t' (List.Pairwise.of_cons h1) (List.Pairwise.of_cons h2) (fun v => by
      have := h v
      unfold at_ at this ⊢
      by_cases q : f a = v
      · rw [List.filter_cons_of_pos (by simpa using q), List.filter_cons_of_pos (by simpa using q)] at this
        injection this
      · rwa [List.filter_cons_of_neg (by simpa using q), List.filter_cons_of_neg (by simpa using q)] at this)
    rw [ht]
/-- The rows with the numbers top, top - 1 .., k of them. -/
def rkD (top : Nat) (rows : List α) : Nat → List α
  | 0 => []
  | k + 1 => rkD top rows k ++ at_ f ((top : Int) - k) rows
theorem rkD_ge (top : Nat) (rows : List α) : ∀ k, ∀ x ∈ rkD f top rows k, (top : Int) - k < f x ∧ f x ≤ top
  | 0, x, h => by simp [rkD] at h
  | k + 1, x, h => by
    rcases List.mem_append.1 h with h | h
    · have := rkD_ge top rows k x h; omega
    · have := (at_mem f).1 h; omega
theorem rkD_desc (top : Nat) (rows : List α) : ∀ k, desc f (rkD f top rows k)
  | 0 => List.Pairwise.nil
  | k + 1 => by
    refine List.pairwise_append.2 ⟨rkD_desc top rows k, ?_, fun a ha b hb => ?_⟩
    · exact List.pairwise_iff_forall_sublist.2 fun {a b} hs => by
        have h1 := (at_mem f).1 (hs.subset (List.mem_cons_self))
        have h2 := (at_mem f).1 (hs.subset (List.mem_cons_of_mem _ List.mem_cons_self))
        omega
    · have h1 := rkD_ge f top rows k a ha
      have h2 := (at_mem f).1 hb
      omega
theorem at_app (v : Int) (l l' : List α) : at_ f v (l ++ l') = at_ f v l ++ at_ f v l' := List.filter_append ..
theorem at_at (v u : Int) (l : List α) : at_ f v (at_ f u l) = if v = u then at_ f u l else [] := by
  unfold at_
  rw [List.filter_filter]
  split
  · subst v; simp
  · rw [List.filter_eq_nil_iff]
    intro a _
    simp
    omega
theorem rkD_at (top : Nat) (rows : List α) (v : Int) : ∀ k, at_ f v (rkD f top rows k) = if (top : Int) - k < v ∧ v ≤ top then at_ f v rows else []
  | 0 => by rw [if_neg (by omega)]; rfl
  | k + 1 => by
    rw [rkD, at_app, rkD_at top rows v k, at_at]
    by_cases h : v = (top : Int) - k
    · rw [if_neg (by omega), if_pos h, if_pos (by omega), h]; rfl
    · rw [if_neg h, List.append_nil]
      by_cases q : (top : Int) - k < v ∧ v ≤ top
      · rw [if_pos q, if_pos (by omega)]
      · rw [if_neg q, if_neg (by omega)]
theorem rk_unique {top : Nat} {rows l : List α} (hb : ∀ g ∈ rows, 0 ≤ f g ∧ f g ≤ top) (hd : desc f l) (ha : ∀ v, at_ f v l = at_ f v rows) : l = rkD f top rows (top + 1) := by
  refine desc_unique f _ _ hd (rkD_desc f top rows _) fun v => ?_
  rw [ha, rkD_at]
  by_cases q : (top : Int) - (top + 1 : Nat) < v ∧ v ≤ top
  · rw [if_pos q]
  · rw [if_neg q]
    unfold at_
    rw [List.filter_eq_nil_iff]
    intro a h
    have := hb a h
    simp
    omega
theorem at_len {l l' : List α} (h : ∀ v, at_ f v l = at_ f v l') {x : α} : x ∈ l ↔ x ∈ l' := ⟨mem_of_at f h, mem_of_at f fun v => (h v).symm⟩
/-- Two rows beside each other change places. -/
def swp (l : List α) (j : Nat) (a b : α) : List α := (l.set j a).set (j - 1) b
theorem set_split {l : List α} {j : Nat} {a b : α} (hj : 0 < j) (ha : l[j - 1]? = some a) (hb : l[j]? = some b) : l = l.take (j - 1) ++ a :: b :: l.drop (j + 1) := by
  obtain ⟨k, rfl⟩ : ∃ k, j = k + 1 := ⟨j - 1, by omega⟩
  rw [Nat.add_sub_cancel] at *
  obtain ⟨h1, e1⟩ := List.getElem?_eq_some_iff.1 hb
  obtain ⟨h2, e2⟩ := List.getElem?_eq_some_iff.1 ha
  conv => lhs; rw [← List.take_append_drop k l, List.drop_eq_getElem_cons h2, List.drop_eq_getElem_cons h1]
  rw [e1, e2]
theorem swp_split {l : List α} {j : Nat} {a b : α} (hj : 0 < j) (ha : l[j - 1]? = some a) (hb : l[j]? = some b) : swp l j a b = l.take (j - 1) ++ b :: a :: l.drop (j + 1) := by
  obtain ⟨k, rfl⟩ : ∃ k, j = k + 1 := ⟨j - 1, by omega⟩
  have hs := set_split hj ha hb
  rw [Nat.add_sub_cancel] at *
  obtain ⟨h1, -⟩ := List.getElem?_eq_some_iff.1 hb
  have hl : (l.take k).length = k := by rw [List.length_take]; omega
  unfold swp
  rw [Nat.add_sub_cancel]
  conv => lhs; rw [hs]
  rw [List.set_append_right _ _ (by omega), hl, Nat.add_sub_cancel_left, List.set_cons_succ, List.set_cons_zero, List.set_append_right _ _ (by omega), hl, Nat.sub_self, List.set_cons_zero]
theorem swp_at {l : List α} {j : Nat} {a b : α} (hj : 0 < j) (ha : l[j - 1]? = some a) (hb : l[j]? = some b) (hlt : f a < f b) (v : Int) : at_ f v (swp l j a b) = at_ f v l := by
  conv => rhs; rw [set_split hj ha hb]
  rw [swp_split hj ha hb, at_app, at_app]
  congr 1
  unfold at_
  by_cases h : f b = v
  · rw [List.filter_cons_of_pos (by simpa using h), List.filter_cons_of_neg (by simp; omega), List.filter_cons_of_neg (by simp; omega), List.filter_cons_of_pos (by simpa using h)]
  · by_cases h2 : f a = v
    · rw [List.filter_cons_of_neg (by simp; omega), List.filter_cons_of_pos (by simpa using h2), List.filter_cons_of_pos (by simpa using h2), List.filter_cons_of_neg (by simp; omega)]
    · rw [List.filter_cons_of_neg (by simpa using h), List.filter_cons_of_neg (by simpa using h2), List.filter_cons_of_neg (by simpa using h2), List.filter_cons_of_neg (by simpa using h)]
theorem swp_len (l : List α) (j : Nat) (a b : α) : (swp l j a b).length = l.length := by simp [swp]
/-- Of the first i + 1 rows all but that at j stand in order, and it is no less than those behind it. -/
def Sink (l : List α) (i j : Nat) : Prop := ∀ p q x y, p < q → q ≤ i → l[p]? = some x → l[q]? = some y → q ≠ j → f y ≤ f x
def Pre (l : List α) (i : Nat) : Prop := ∀ p q x y, p < q → q < i → l[p]? = some x → l[q]? = some y → f y ≤ f x
theorem Sink.start {l : List α} {i : Nat} (h : Pre f l i) : Sink f l i i := fun p q x y hp hq hx hy hne => h p q x y hp (by omega) hx hy
theorem Sink.stop {l : List α} {i j : Nat} (h : Sink f l i j) (hs : ∀ x y, 0 < j → l[j - 1]? = some x → l[j]? = some y → f y ≤ f x) : Pre f l (i + 1) := by
  intro p q x y hp hq hx hy
  by_cases e : q = j
  · subst e
    obtain ⟨z, hz⟩ : ∃ z, l[q - 1]? = some z := by
      obtain ⟨h1, -⟩ := List.getElem?_eq_some_iff.1 hy
      exact ⟨l[q - 1]'(by omega), List.getElem?_eq_getElem _⟩
    have h1 := hs z y (by omega) hz hy
    by_cases e2 : p = q - 1
    · subst e2
      rw [hz] at hx
      injection hx with hx
      subst hx
      exact h1
    · have := h p (q - 1) x z (by omega) (by omega) hx hz (by omega)
      omega
  · exact h p q x y hp (by omega) hx hy e
theorem Sink.step {l : List α} {i j : Nat} {a b : α} (h : Sink f l i j) (hj : 0 < j) (hi : j ≤ i) (ha : l[j - 1]? = some a) (hb : l[j]? = some b) (hlt : f a < f b) : Sink f (swp l j a b) i (j - 1) := by
  obtain ⟨h1, -⟩ := List.getElem?_eq_some_iff.1 hb
  have g : ∀ p z, (swp l j a b)[p]? = some z → (p = j - 1 ∧ z = b) ∨ (p = j ∧ z = a) ∨ (p ≠ j ∧ p ≠ j - 1 ∧ l[p]? = some z) := by
    intro p z hz
    unfold swp at hz
    rw [List.getElem?_set, List.getElem?_set] at hz
    rw [List.length_set] at hz
    by_cases e : j - 1 = p
    · rw [if_pos e, if_pos (by omega)] at hz
      injection hz with hz
      exact .inl ⟨e.symm, hz.symm⟩
    · rw [if_neg e] at hz
      by_cases e2 : j = p
      · rw [if_pos e2, if_pos (by omega)] at hz
        injection hz with hz
        exact .inr (.inl ⟨e2.symm, hz.symm⟩)
      · rw [if_neg e2] at hz
        exact .inr (.inr ⟨fun e => e2 e.symm, fun e' => e e'.symm, hz⟩)
  intro p q x y hp hq hx hy hne
  rcases g p x hx with ⟨e1, e2⟩ | ⟨e1, e2⟩ | ⟨e1, e2, e3⟩
  · subst e2
    rcases g q y hy with ⟨f1, f2⟩ | ⟨f1, f2⟩ | ⟨f1, f2, f3⟩
    · omega
    · subst f2; omega
    · have := h j q x y (by omega) hq hb f3 (by omega); omega
  · subst e2
    rcases g q y hy with ⟨f1, f2⟩ | ⟨f1, f2⟩ | ⟨f1, f2, f3⟩
    · omega
    · omega
    · have := h (j - 1) q x y (by omega) hq ha f3 (by omega); omega
  · rcases g q y hy with ⟨f1, f2⟩ | ⟨f1, f2⟩ | ⟨f1, f2, f3⟩
    · omega
    · subst f2
      have := h p (j - 1) x y (by omega) (by omega) e3 ha (by omega)
      omega
    · exact h p q x y hp hq e3 f3 (by omega)
theorem Pre.desc {l : List α} (h : Pre f l l.length) : desc f l := by
  show l.Pairwise fun a b => f b ≤ f a
  rw [List.pairwise_iff_getElem]
  intro i j hi hj hlt
  exact h i j _ _ hlt hj (List.getElem?_eq_getElem hi) (List.getElem?_eq_getElem hj)
end
end Go.Proofs.YtmjgogklalploaaGreatDoor
/-! ### GrOwn -/
namespace Go.Proofs.YtmjgogklalploaaGreatDoor
open Go.ChangeShapes Go.WideShapes Go.ChangeAt Go.RowKit
set_option linter.unusedVariables false
set_option linter.unusedSimpArgs false
theorem RdR_of_flat {K : Nat} {w : World} {A : Option Addr} {rows : List (List Value)} (h : Rd w A rows.flatten) (hw : ∀ row ∈ rows, row.length = K) (hK : 0 < K) : RdR K w A rows := fun i row hr => by
  have hl : row.length = K := hw row (List.mem_of_getElem? hr)
  rcases h with h | ⟨b, off, hA, hc⟩
  · have := flat_at hw hr 0 row[0] (List.getElem?_eq_getElem (by omega))
    rw [h] at this
    simp at this
  · have at_ : ∀ (j : Nat) (v : Value), row[j]? = some v → w.cell? ⟨b, off + i * K + j, none⟩ = some v := fun j v hj => by
      have h1 := flat_at hw hr j v hj
      obtain ⟨h2, h3⟩ := List.getElem?_eq_some_iff.1 h1
      have := hc _ h2
      rw [h3] at this
      rw [Nat.add_assoc]
      exact this
    exact ⟨b, off, hA, fun j v hj => at_ j v hj, World.block_lt_of_cell? w _ (at_ 0 row[0] (List.getElem?_eq_getElem (by omega)))⟩
def OwnGr (w : World) (B : Nat) (v : Value) (rows : List GrantD) : Prop := w.ownsRow B 76 18 v rows.length (gcs rows).flatten
theorem OwnGr.form {w : World} {B : Nat} {v : Value} {rows : List GrantD} (h : OwnGr w B v rows) : ∃ A c, v = .slice A rows.length c ∧ RdR 18 w A (gcs rows) ∧ rows.length ≤ c ∧ c ≤ maxLen := by
  obtain ⟨A, c, hv, hr, hf⟩ := ownsRow_form h
  refine ⟨A, c, hv, RdR_of_flat hr (gcs_wid rows) (by decide), ?_⟩
  by_cases hp : 0 < rows.length
  · obtain ⟨g, -, -, -, h1, h2, -⟩ := hf hp
    exact ⟨h1, h2⟩
  · obtain ⟨-, ⟨e, -⟩ | ⟨g, cap, cur, e, -, -, h1, h2, -⟩⟩ := h
    · rw [e] at hv
      injection hv with _ e2 e3
      subst e3
      exact ⟨by omega, Nat.zero_le _⟩
    · rw [e] at hv
      injection hv with _ e2 e3
      subst e3
      exact ⟨h1, h2⟩
theorem OwnGr.below {w w' : World} {B : Nat} {v : Value} {rows : List GrantD} (h : OwnGr w B v rows) (hb : Below w.heap.size w w') : OwnGr w' B v rows := ownsRow_below h hb
theorem OwnGr.base {w : World} {B B' : Nat} {v : Value} {rows : List GrantD} (h : OwnGr w B v rows) (hB : B' ≤ B) : OwnGr w B' v rows := ownsRow_base h hB
theorem OwnGr.other {w w' : World} {B : Nat} {v : Value} {rows : List GrantD} {row : Option Nat} (h : OwnGr w B v rows) (hg : w.grownBy w' row) (hne : v.ownBlock = none ∨ v.ownBlock ≠ row) : OwnGr w' B v rows := World.ownsRow.kept h hg hne
theorem OwnGr.lt {w : World} {B : Nat} {v : Value} {rows : List GrantD} (h : OwnGr w B v rows) : ∀ k, v.ownBlock = some k → B ≤ k ∧ k < w.heap.size := World.ownsRow.lt h
theorem OwnGr.nil (w : World) (B : Nat) : OwnGr w B (.slice none 0 0) [] := World.ownsRow_nil _ _ _ _
theorem OwnGr.none0 (w : World) (B g : Nat) (hg : g = w.heap.size) (hB : B ≤ g) : OwnGr (w.alloc (.cells #[] 76)) B (.slice (some ⟨g, 0, none⟩) 0 0) [] :=
  ⟨rfl, .inr ⟨g, 0, #[], rfl, hB, heap_hit _ _ _ hg, Nat.le_refl _, by simp [maxLen], rfl, rfl⟩⟩
theorem OwnGr.ofR {w : World} {B g : Nat} {rows : List GrantD} (h : OwnR 18 w B g 76 (gcs rows) []) (hl : rows.length ≤ 1048576) : OwnGr w B (.slice (some ⟨g, 0, none⟩) rows.length rows.length) rows := by
  have hf : (gcs rows).flatten.length = rows.length * 18 := by rw [flat_len (gcs_wid rows), gcs_len]
  refine ⟨hf, .inr ⟨g, rows.length, _, rfl, h.low, h.blk, Nat.le_refl _, by unfold maxLen; omega, by simp [-List.length_flatten, hf], ?_⟩⟩
  rw [List.toList_toArray, List.append_nil]
  exact List.take_of_length_le (by omega)
theorem OwnGr.apart {w w' : World} {B B' : Nat} {v v' : Value} {rows rows' : List GrantD} (h : OwnGr w B v rows) (h' : OwnGr w' B' v' rows') (hs : w.heap.size ≤ B') : v.ownBlock = none ∨ v.ownBlock ≠ v'.ownBlock := by
  cases e : v.ownBlock with
  | none => exact .inl rfl
  | some k =>
    refine .inr fun e' => ?_
    have h1 := World.ownsRow.lt h k e
    have h2 := World.ownsRow.lt h' k e'.symm
    omega
theorem gcs_append (a b : List GrantD) : gcs (a ++ b) = gcs a ++ gcs b := by simp [gcs]
section
variable {w : World} {ops : Array Oper} {rest : List Oper} {o : Oper} {a : Act} {Q : Exit → Act → World → Prop}
/-- Grants appended to a row of the call's own. -/
theorem wp_appGr (hgd : o.guard = none) (s x : Operand) (ho : o.op = .call { callee := .builtin .append, args := #[s, x], argTypes := #[35, 35] })
    (B : Nat) (v : Value) (rows : List GrantD) (hs : a.eval s = v) (h : OwnGr w B v rows) (ad : Addr) (m c : Nat) (rows2 : List GrantD) (hx : a.eval x = .slice (some ad) m c) (h2 : RdR 18 w (some ad) (gcs rows2)) (hm : m = rows2.length)
    (hl : rows.length ≤ 1048576) (hl2 : rows2.length ≤ 1048576) (hB : B ≤ w.heap.size)
    (hK : ∀ v' w', OwnGr w' B v' (rows ++ rows2) → w.grownBy w' v.ownBlock → Below B w w' → (v'.ownBlock = v.ownBlock ∨ v'.ownBlock = some w.heap.size) → wpList Tryz.prog ops Q rest (a.put o.dst v') w') : wpList Tryz.prog ops Q (o :: rest) a w := by
  subst hm
  obtain ⟨i0, hi, hz0, hz1, hz2⟩ := info_parts info_gcz
  have hnews : ∀ (j : Nat) (u : Value), (gcs rows2).flatten[j]? = some u → w.cell? (ad.add j) = some u := by
    intro j u hj
    have hjl := (List.getElem?_eq_some_iff.1 hj).1
    rw [flat_len (gcs_wid rows2), gcs_len] at hjl
    have hdiv : j / 18 < rows2.length := by omega
    obtain ⟨g, hg⟩ := grant_at hdiv
    obtain ⟨b, off, e, hr, -⟩ := h2.grants hg
    obtain rfl := Option.some.inj e
    have hmod : j % 18 < (gc g).length := by rw [gc_len]; omega
    have h3 := flat_at (gcs_wid rows2) (gcs_at hg) (j % 18) (gc g)[j % 18] (List.getElem?_eq_getElem hmod)
    have ej : j / 18 * 18 + j % 18 = j := by omega
    rw [ej, hj] at h3
    have h3 := Option.some.inj h3
    rw [h3]
    have h4 := hr (j % 18) _ (List.getElem?_eq_getElem hmod)
    rw [Nat.add_assoc, ej] at h4
    have : (Addr.add ⟨b, off, none⟩ j : Addr) = ⟨b, off + j, none⟩ := by
      unfold Addr.add
      split
      · next h => subst h; rfl
      · rfl
    rw [this]
    exact h4
  have hone : ∀ u ∈ (gcs rows2).flatten, u.oneCell' = true := by
    intro u hu
    obtain ⟨r, hr, hu⟩ := List.mem_flatten.1 hu
    simp only [gcs, List.mem_map] at hr
    obtain ⟨g, -, rfl⟩ := hr
    exact gc_one g u hu
  refine wpList_append_own_at w hgd s x 35 ho B 76 i0 _ 18 152 Tryz.underlying35 hi hz0 hz1 hz2 rfl (by decide) v rows.length _ hs h ad rows2.length c (gcs rows2).flatten hx (by rw [flat_len (gcs_wid rows2), gcs_len]) hnews hone (by unfold maxLen; omega) (by omega) hB fun v' w' h3 h4 _ h5 => hK v' w' ?_ h4 (grown_below h hB h4) h5
  unfold OwnGr
  rw [List.length_append, gcs_append, List.flatten_append]
  exact h3
end
end Go.Proofs.YtmjgogklalploaaGreatDoor
/-! ### SortP -/
namespace Go.Proofs.YtmjgogklalploaaGreatDoor
open Go.ChangeShapes Go.WideShapes Go.ChangeAt Go.RowKit
set_option linter.unusedVariables false
set_option linter.unusedSimpArgs false
theorem gcs_take (rows : List GrantD) (k : Nat) : (gcs rows).take k = gcs (rows.take k) := by simp [gcs, List.map_take]
theorem gcs_drop (rows : List GrantD) (k : Nat) : (gcs rows).drop k = gcs (rows.drop k) := by simp [gcs, List.map_drop]
theorem gcs_set (rows : List GrantD) (k : Nat) (g : GrantD) : (gcs rows).set k (gc g) = gcs (rows.set k g) := by simp [gcs, List.map_set]
theorem OwnGr.cur {w : World} {B g c k : Nat} {rows : List GrantD} {x : GrantD} (h : OwnGr w B (.slice (some ⟨g, 0, none⟩) rows.length c) rows) (hx : rows[k]? = some x) :
    B ≤ g ∧ rows.length ≤ c ∧ c ≤ maxLen ∧ ∃ rest : List Value, w.heap[g]? = some (.cells (((gcs rows).take k).flatten ++ (gc x ++ (((gcs rows).drop (k + 1)).flatten ++ rest))).toArray 76 (0, 0)) ∧ rows.length * 18 + rest.length = c * 18 := by
  obtain ⟨hl, ⟨e, h0⟩ | ⟨g', c', cur, e, hB, hh, hnc, hcm, hcs, htk⟩⟩ := h
  · injection e with e; cases e
  · injection e with e1 e2 e3
    injection e1 with e1
    injection e1 with e1
    subst e1 e3
    refine ⟨hB, hnc, hcm, cur.toList.drop (rows.length * 18), ?_, ?_⟩
    · have hs := flat_split (rows := gcs rows) (k := k) (row := gc x) (by simp [gcs, hx])
      rw [hh]
      have : cur.toList = ((gcs rows).take k).flatten ++ (gc x ++ (((gcs rows).drop (k + 1)).flatten ++ cur.toList.drop (rows.length * 18))) := by
        conv => lhs; rw [← List.take_append_drop (rows.length * 18) cur.toList, htk, hs]
        simp only [List.append_assoc]
      conv => lhs; rw [← Array.toArray_toList (xs := cur), this]
    · have h1 : cur.toList.length = c * 18 := by rw [Array.length_toList]; exact hcs
      rw [List.length_drop, h1]
      have := Nat.mul_le_mul_right 18 hnc
      omega
section
variable {ops : Array Oper} {rest : List Oper} {op : Oper} {a : Act} {w : World} {Q : Exit → Act → World → Prop}
theorem wp_stRow {K : Act → World → Prop} (x y : Operand) (ho : op.op = .store 76 x y) (B g c k : Nat) (rows : List GrantD) (gr : GrantD) (h : OwnGr w B (.slice (some ⟨g, 0, none⟩) rows.length c) rows) (hk : k < rows.length)
    (o : Nat) (hx : a.eval x = .pointer (some ⟨g, o, none⟩)) (he : o = k * 18) (hy : a.eval y = .agg (gc gr).toArray)
    (hK : ∀ w', OwnGr w' B (.slice (some ⟨g, 0, none⟩) (rows.set k gr).length c) (rows.set k gr) → w.grownBy w' (some g) → K (a.put op.dst undef) w') : op.wp Tryz.prog a w K Q := by
  obtain ⟨hB, hnc, hcm, left, hh, hlen⟩ := h.cur (List.getElem?_eq_getElem hk)
  have hpl : ((gcs rows).take k).flatten.length = k * 18 := by
    rw [flat_pre (gcs_wid rows) (by simp [gcs]; omega)]
  have hset := flat_set (rows := gcs rows) (gcs_wid rows) (k := k) (by simp [gcs]; exact hk) (gc gr)
  rw [gcs_set] at hset
  have hsl : (gcs (rows.set k gr)).flatten.length = rows.length * 18 := by rw [flat_len (gcs_wid _)]; simp [gcs]
  refine wp_store_mid 76 x y ho g o (gc gr).toArray hx hy ?_ (by simpa using info_gc gr) (all_oneCell_toArray (gc_one gr)) (hK _ ?_ ?_)
  · rw [he, ← hpl]
    exact block_there hh (by simp [gc_len])
  · rw [List.toList_toArray, he, ← hpl]
    have h1 := heap_setCells (gc gr) w ((gcs rows).take k).flatten (gc rows[k]) (((gcs rows).drop (k + 1)).flatten ++ left) (by rw [gc_len, gc_len]) hh
    refine ⟨by rw [List.length_set]; exact hsl, .inr ⟨g, c, _, rfl, hB, h1, by rw [List.length_set]; exact hnc, hcm, ?_, ?_⟩⟩
    · rw [List.size_toArray, ← List.append_assoc, ← List.append_assoc, List.append_assoc (((gcs rows).take k).flatten), ← hset, List.length_append, hsl, hlen]
    · rw [List.toList_toArray, ← List.append_assoc, ← List.append_assoc, List.append_assoc (((gcs rows).take k).flatten), ← hset, List.length_set]
      rw [← hsl]
      exact List.take_left
  · rw [List.toList_toArray]
    exact grownBy_setCells _ _ (grownBy_of (Below.refl _ _))
end
end Go.Proofs.YtmjgogklalploaaGreatDoor
/-! ### Sort -/
namespace Go.Proofs.YtmjgogklalploaaGreatDoor
open Go.ChangeShapes Go.WideShapes Go.ChangeAt Go.RowKit
set_option linter.unusedVariables false
set_option linter.unusedSimpArgs false
theorem OwnGr.row {w : World} {B g c k : Nat} {rows : List GrantD} {x : GrantD} (h : OwnGr w B (.slice (some ⟨g, 0, none⟩) rows.length c) rows) (hx : rows[k]? = some x) : w.rangeAt g (k * 18) (gc x) := by
  obtain ⟨A, c', e, hr, -⟩ := h.form
  injection e with e
  subst e
  obtain ⟨b, off, e2, hr2, -⟩ := hr.grants hx
  have e3 : g = b := congrArg Addr.block (Option.some.inj e2)
  have e4 : 0 = off := congrArg Addr.off (Option.some.inj e2)
  subst e3 e4
  rwa [Nat.zero_add] at hr2
theorem ite_intro {c : Prop} [Decidable c] {A B : Prop} (hc : c) (h : A) : if c then A else B := by rw [if_pos hc]; exact h
def SortPost (w : World) (B g c : Nat) (f : GrantD → Int) (rows : List GrantD) (e : Ending) (w' : World) : Prop :=
  e = .returned (.tuple #[]) ∧ ∃ l, desc f l ∧ (∀ v, at_ f v l = at_ f v rows) ∧ l.length = rows.length ∧ OwnGr w' B (.slice (some ⟨g, 0, none⟩) l.length c) l ∧ w.grownBy w' (some g)
set_option maxHeartbeats 8000000 in
set_option maxRecDepth 100000 in
theorem insG_any (cl : FuncId) (caps : Array Value) (B g c : Nat) (f : GrantD → Int) (rows : List GrantD) (w : World) (h : OwnGr w B (.slice (some ⟨g, 0, none⟩) rows.length c) rows) (hl : rows.length ≤ 1000)
    (hcf : ∀ args w, (callFunc cl args).run Tryz.prog w = .ok (.enter cl args) w)
    (hcl : ∀ (x y : GrantD) (w' : World), x ∈ rows → y ∈ rows → w.grownBy w' (some g) → Calls Tryz.prog cl (#[.agg (gc x).toArray, .agg (gc y).toArray] ++ caps) w' fun e w'' => e = .returned (.int .i64 (f y - f x)) ∧ Below w'.heap.size w' w'') :
    Calls Tryz.prog 123 #[.slice (some ⟨g, 0, none⟩) rows.length c, .int .i64 0, .int .i64 rows.length, .func (.func cl) #[] caps] w (SortPost w B g c f rows) := by
  have HC := Lib.hid hcl
  clear hcl
  go_enter Tryz.func123, Tryz.ntmps123
  go_wp2_with fail
  go_loopw [8] (fun i wr => ∃ (k : Nat) (l : List GrantD), 1 ≤ k ∧ (k ≤ rows.length ∨ k = 1) ∧ i = .int .i64 k ∧ Pre f l k ∧ (∀ v, at_ f v l = at_ f v rows) ∧ l.length = rows.length ∧ OwnGr wr B (.slice (some ⟨g, 0, none⟩) l.length c) l ∧ w.grownBy wr (some g)) (fun i _ => rows.length + 1 - (intOf i).toNat)
  case atStart => exact ⟨1, rows, Nat.le_refl _, .inr rfl, rfl, fun p q x y h1 h2 => by omega, fun _ => rfl, rfl, h, grownBy_of (Below.refl _ _)⟩
  case round =>
    clear h
    obtain ⟨k, l, hk1, hk2, rfl, hpre, hat, hlen, hO, hg⟩ := hrel
    have HAT := Lib.hid hat
    have HLEN := Lib.hid hlen
    have hll : l.length ≤ 1000 := by omega
    by_cases hlt : k < rows.length
    · have i1 : (k : Int) < (rows.length : Int) := by omega
      have d1 : decide (k < rows.length) = true := by simpa using hlt
      have hsink := Sink.start f hpre
      have hkl : k < l.length := by omega
      clear hpre hat hlen
      go_wp2_with fail
      go_loopw [9] (fun jv wr => ∃ (j : Nat) (l2 : List GrantD), j ≤ k ∧ jv = .int .i64 j ∧ Sink f l2 k j ∧ (∀ v, at_ f v l2 = at_ f v rows) ∧ l2.length = rows.length ∧ OwnGr wr B (.slice (some ⟨g, 0, none⟩) l2.length c) l2 ∧ w.grownBy wr (some g)) (fun jv _ => (intOf jv).toNat)
      case atStart => exact ⟨k, l, Nat.le_refl _, rfl, hsink, HAT.out, HLEN.out, hO, hg⟩
      case round =>
        clear hO hg hsink
        obtain ⟨j, l2, hjk, rfl, hsink, hat, hlen, hO, hg⟩ := hrel
        have HAT := Lib.hid hat
        have HLEN := Lib.hid hlen
        have HS := Lib.hid hsink
        have HO := Lib.hid hO
        have HG := Lib.hid hg
        have hj2 : j < l2.length := by omega
        have i2 : (j : Int) < (rows.length : Int) := by omega
        clear hat hsink hlen hO hg
        by_cases hj0 : j = 0
        · subst hj0
          have hsto : Pre f l2 (k + 1) := Sink.stop f HS.out (fun x y h => absurd h (by omega))
          have HST := Lib.hid hsto
          clear hsto
          go_wp2_with fail
          refine wp_region_noPanic ?_
          refine wp_region_held_drew (S := (fun w' => Below wr.heap.size wr w')) (by kernel_rfl) (Below.refl _ _).drew (fun hHeld => ?_)
          refine wpAnyH_take (i := 0) (oi := _) (v := ?_) rfl (by kernel_rfl) (by kernel_rfl) (by kernel_rfl) (fun _ _ _ h => h) (Or.inl ⟨by rfl, ?_⟩) (by assumption) ?_
          rotate_left
          · intro w hSw; clear hSw; first | (go_simp; done) | (go_simp; with_reducible rfl)
          simp only [Act.put, List.getElem_toArray, List.getElem_cons_succ, List.getElem_cons_zero, List.setIfInBounds_toArray, List.set_cons_zero, List.set_cons_succ]
          refine wpAnyH_take (i := 1) (oi := _) (v := ?_) rfl (by kernel_rfl) (by kernel_rfl) (by kernel_rfl) (fun _ _ _ h => h) (Or.inl ⟨by rfl, ?_⟩) (by assumption) ?_
          rotate_left
          · intro w hSw; clear hSw; first | (go_simp; done) | (go_simp; with_reducible rfl)
          simp only [Act.put, List.getElem_toArray, List.getElem_cons_succ, List.getElem_cons_zero, List.setIfInBounds_toArray, List.set_cons_zero, List.set_cons_succ]
          refine wpAnyH_take (i := 2) (oi := _) (v := ?_) rfl (by kernel_rfl) (by kernel_rfl) (by kernel_rfl) (fun _ _ _ h => h) (Or.inl ⟨by rfl, ?_⟩) (by assumption) ?_
          rotate_left
          · intro w hSw; clear hSw; first | (go_simp; done) | (go_simp; with_reducible rfl)
          simp only [Act.put, List.getElem_toArray, List.getElem_cons_succ, List.getElem_cons_zero, List.setIfInBounds_toArray, List.set_cons_zero, List.set_cons_succ]
          refine wpAnyH_take (i := 3) (oi := _) (v := ?_) rfl (by kernel_rfl) (by kernel_rfl) (by kernel_rfl) (fun _ _ _ h => h) (Or.inl ⟨by rfl, ?_⟩) (by assumption) ?_
          rotate_left
          · intro w hSw; clear hSw; first | (go_simp; done) | (go_simp; with_reducible rfl)
          simp only [Act.put, List.getElem_toArray, List.getElem_cons_succ, List.getElem_cons_zero, List.setIfInBounds_toArray, List.set_cons_zero, List.set_cons_succ]
          refine wpAnyH_take (i := 4) (oi := _) (v := _) rfl (by kernel_rfl) (by kernel_rfl) (by kernel_rfl) (fun _ _ _ h => h) (Or.inr ⟨by kernel_rfl, rfl⟩) (by assumption) ?_
          simp only [Act.put, List.getElem_toArray, List.getElem_cons_succ, List.getElem_cons_zero, List.setIfInBounds_toArray, List.set_cons_zero, List.set_cons_succ]
          refine wpAnyH_take (i := 5) (oi := _) (v := _) rfl (by kernel_rfl) (by kernel_rfl) (by kernel_rfl) (fun _ _ _ h => h) (Or.inr ⟨by kernel_rfl, rfl⟩) (by assumption) ?_
          simp only [Act.put, List.getElem_toArray, List.getElem_cons_succ, List.getElem_cons_zero, List.setIfInBounds_toArray, List.set_cons_zero, List.set_cons_succ]
          refine wpAnyH_take (i := 6) (oi := _) (v := _) rfl (by kernel_rfl) (by kernel_rfl) (by kernel_rfl) (fun _ _ _ h => h) (Or.inr ⟨by kernel_rfl, rfl⟩) (by assumption) ?_
          simp only [Act.put, List.getElem_toArray, List.getElem_cons_succ, List.getElem_cons_zero, List.setIfInBounds_toArray, List.set_cons_zero, List.set_cons_succ]
          refine wpAnyH_take (i := 7) (oi := _) (v := _) rfl (by kernel_rfl) (by kernel_rfl) (by kernel_rfl) (fun _ _ _ h => h) (Or.inr ⟨by kernel_rfl, rfl⟩) (by assumption) ?_
          simp only [Act.put, List.getElem_toArray, List.getElem_cons_succ, List.getElem_cons_zero, List.setIfInBounds_toArray, List.set_cons_zero, List.set_cons_succ]
          refine wpAnyH_take (i := 8) (oi := _) (v := _) rfl (by kernel_rfl) (by kernel_rfl) (by kernel_rfl) (fun _ _ _ h => h) (Or.inr ⟨by kernel_rfl, rfl⟩) (by assumption) ?_
          simp only [Act.put, List.getElem_toArray, List.getElem_cons_succ, List.getElem_cons_zero, List.setIfInBounds_toArray, List.set_cons_zero, List.set_cons_succ]
          refine wpAnyH_take (i := 9) (oi := _) (v := _) rfl (by kernel_rfl) (by kernel_rfl) (by kernel_rfl) (fun _ _ _ h => h) (Or.inr ⟨by kernel_rfl, rfl⟩) (by assumption) ?_
          simp only [Act.put, List.getElem_toArray, List.getElem_cons_succ, List.getElem_cons_zero, List.setIfInBounds_toArray, List.set_cons_zero, List.set_cons_succ]
          refine wpAnyH_take (i := 10) (oi := _) (v := _) rfl (by kernel_rfl) (by kernel_rfl) (by kernel_rfl) (fun _ _ _ h => h) (Or.inr ⟨by kernel_rfl, rfl⟩) (by assumption) ?_
          simp only [Act.put, List.getElem_toArray, List.getElem_cons_succ, List.getElem_cons_zero, List.setIfInBounds_toArray, List.set_cons_zero, List.set_cons_succ]
          refine wpAnyH_take (i := 11) (oi := _) (v := _) rfl (by kernel_rfl) (by kernel_rfl) (by kernel_rfl) (fun _ _ _ h => h) (Or.inr ⟨by kernel_rfl, rfl⟩) (by assumption) ?_
          simp only [Act.put, List.getElem_toArray, List.getElem_cons_succ, List.getElem_cons_zero, List.setIfInBounds_toArray, List.set_cons_zero, List.set_cons_succ]
          refine wpAnyH_take (i := 12) (oi := _) (v := _) rfl (by kernel_rfl) (by kernel_rfl) (by kernel_rfl) (fun _ _ _ h => h) (Or.inr ⟨by kernel_rfl, rfl⟩) (by assumption) ?_
          simp only [Act.put, List.getElem_toArray, List.getElem_cons_succ, List.getElem_cons_zero, List.setIfInBounds_toArray, List.set_cons_zero, List.set_cons_succ]
          refine wpAnyH_take (i := 13) (oi := _) (v := _) rfl (by kernel_rfl) (by kernel_rfl) (by kernel_rfl) (fun _ _ _ h => h) (Or.inr ⟨by kernel_rfl, rfl⟩) (by assumption) ?_
          simp only [Act.put, List.getElem_toArray, List.getElem_cons_succ, List.getElem_cons_zero, List.setIfInBounds_toArray, List.set_cons_zero, List.set_cons_succ]
          refine wpAnyH_take (i := 14) (oi := _) (v := _) rfl (by kernel_rfl) (by kernel_rfl) (by kernel_rfl) (fun _ _ _ h => h) (Or.inr ⟨by kernel_rfl, rfl⟩) (by assumption) ?_
          simp only [Act.put, List.getElem_toArray, List.getElem_cons_succ, List.getElem_cons_zero, List.setIfInBounds_toArray, List.set_cons_zero, List.set_cons_succ]
          refine wpAnyH_take (i := 15) (oi := _) (v := _) rfl (by kernel_rfl) (by kernel_rfl) (by kernel_rfl) (fun _ _ _ h => h) (Or.inr ⟨by kernel_rfl, rfl⟩) (by assumption) ?_
          simp only [Act.put, List.getElem_toArray, List.getElem_cons_succ, List.getElem_cons_zero, List.setIfInBounds_toArray, List.set_cons_zero, List.set_cons_succ]
          refine wpAnyH_take (i := 16) (oi := _) (v := ?_) rfl (by kernel_rfl) (by kernel_rfl) (by kernel_rfl) (fun _ _ _ h => h) (Or.inl ⟨by rfl, ?_⟩) (by assumption) ?_
          rotate_left
          · intro w hSw; clear hSw; first | (go_simp; done) | (go_simp; with_reducible rfl)
          simp only [Act.put, List.getElem_toArray, List.getElem_cons_succ, List.getElem_cons_zero, List.setIfInBounds_toArray, List.set_cons_zero, List.set_cons_succ]
          refine wpAnyH_done (by kernel_rfl) ?_ _
          refine NoPanic.normal ?_
          have hg2 := grownBy_below HG.out hHeld
          have hO2 := HO.out.below hHeld
          clear hHeld
          go_wp2
          go_roundw
          case rel => exact ⟨k + 1, l2, by omega, .inl (by omega), by go_num, HST.out, HAT.out, HLEN.out, hO2, hg2⟩
          case measure => simp [intOf]; omega
        · obtain ⟨jm, rfl⟩ : ∃ jm, j = jm + 1 := ⟨j - 1, by omega⟩
          obtain ⟨x, hx⟩ := grant_at (show jm < l2.length by omega)
          obtain ⟨y, hy⟩ := grant_at hj2
          have hrx := HO.out.row hx
          have hry := HO.out.row hy
          have KC : ∀ w' : World, Below wr.heap.size wr w' → Calls Tryz.prog cl (#[.agg (gc y).toArray, .agg (gc x).toArray] ++ caps) w' fun e w'' => e = .returned (.int .i64 (f x - f y)) ∧ Below w'.heap.size w' w'' := fun w' hb =>
            HC.out y x w' ((at_len f HAT.out).1 (List.mem_of_getElem? hy)) ((at_len f HAT.out).1 (List.mem_of_getElem? hx)) (grownBy_below HG.out hb)
          have KC := Lib.hid KC
          have HX := Lib.hid hx
          have HY := Lib.hid hy
          have e1 : ((jm + 1 : Nat) : Int) = (jm : Int) + 1 := by omega
          rw [e1] at i2 ⊢
          have i3 : (0 : Int) < (jm : Int) + 1 := by omega
          have i4 : (0 : Int) ≤ (jm : Int) + 1 := by omega
          have i5 : (jm : Int) < (rows.length : Int) := by omega
          have s1 : ((jm : Int) + 1).toNat = jm + 1 := by omega
          have s2 : (jm : Int) + 1 - 1 = (jm : Int) := by omega
          have s3 : IntKind.i64.wrap (jm : Int) = (jm : Int) := by rw [IntKind.wrap_i64]; omega
          clear hx hy
          by_cases hq : f x - f y < 0
          · go_wp2_with fail
            refine wp_region_noPanic ?_
            refine wp_region_held_drew (S := (fun w' => w'.rangeAt g ((jm + 1) * 18) (gc y) ∧ w'.rangeAt g (jm * 18) (gc x) ∧ Below wr.heap.size wr w')) (by kernel_rfl) ⟨hry, hrx, (Below.refl _ _).drew⟩ (fun hHeld => ?_)
            refine wpAnyH_take (i := 0) (oi := _) (v := ?_) rfl (by kernel_rfl) (by kernel_rfl) (by kernel_rfl) (fun _ _ _ h => h) (Or.inl ⟨by rfl, ?_⟩) (by assumption) ?_
            rotate_left
            · intro w hSw; clear hSw; first | (go_simp; done) | (go_simp; with_reducible rfl)
            simp only [Act.put, List.getElem_toArray, List.getElem_cons_succ, List.getElem_cons_zero, List.setIfInBounds_toArray, List.set_cons_zero, List.set_cons_succ]
            refine wpAnyH_take (i := 1) (oi := _) (v := ?_) rfl (by kernel_rfl) (by kernel_rfl) (by kernel_rfl) (fun _ _ _ h => h) (Or.inl ⟨by rfl, ?_⟩) (by assumption) ?_
            rotate_left
            · intro w hSw; clear hSw; first | (go_simp; done) | (go_simp; with_reducible rfl)
            simp only [Act.put, List.getElem_toArray, List.getElem_cons_succ, List.getElem_cons_zero, List.setIfInBounds_toArray, List.set_cons_zero, List.set_cons_succ]
            refine wpAnyH_take (i := 2) (oi := _) (v := ?_) rfl (by kernel_rfl) (by kernel_rfl) (by kernel_rfl) (fun _ _ _ h => h) (Or.inl ⟨by rfl, ?_⟩) (by assumption) ?_
            rotate_left
            · intro w hSw; clear hSw; first | (go_simp; done) | (go_simp; with_reducible rfl)
            simp only [Act.put, List.getElem_toArray, List.getElem_cons_succ, List.getElem_cons_zero, List.setIfInBounds_toArray, List.set_cons_zero, List.set_cons_succ]
            refine wpAnyH_take (i := 3) (oi := _) (v := ?_) rfl (by kernel_rfl) (by kernel_rfl) (by kernel_rfl) (fun _ _ _ h => h) (Or.inl ⟨by rfl, ?_⟩) (by assumption) ?_
            rotate_left
            · intro w hSw; clear hSw; first | (go_simp; done) | (go_simp; with_reducible rfl)
            simp only [Act.put, List.getElem_toArray, List.getElem_cons_succ, List.getElem_cons_zero, List.setIfInBounds_toArray, List.set_cons_zero, List.set_cons_succ]
            refine wpAnyH_take (i := 4) (oi := _) (v := ?_) rfl (by kernel_rfl) (by kernel_rfl) (by kernel_rfl) (fun _ _ _ h => h) (Or.inl ⟨by rfl, ?_⟩) (by assumption) ?_
            rotate_left
            · intro w hSw; clear hSw; first | (go_simp; done) | (go_simp; with_reducible rfl)
            simp only [Act.put, List.getElem_toArray, List.getElem_cons_succ, List.getElem_cons_zero, List.setIfInBounds_toArray, List.set_cons_zero, List.set_cons_succ]
            refine wpAnyH_take (i := 5) (oi := _) (v := ?_) rfl (by kernel_rfl) (by kernel_rfl) (by kernel_rfl) (fun _ _ _ h => h) (Or.inl ⟨by rfl, ?_⟩) (by assumption) ?_
            rotate_left
            · intro w hSw; clear hSw; first | (go_simp; done) | (go_simp; with_reducible rfl)
            simp only [Act.put, List.getElem_toArray, List.getElem_cons_succ, List.getElem_cons_zero, List.setIfInBounds_toArray, List.set_cons_zero, List.set_cons_succ]
            refine wpAnyH_take (i := 6) (oi := _) (v := ?_) rfl (by kernel_rfl) (by kernel_rfl) (by kernel_rfl) (fun _ _ _ h => h) (Or.inl ⟨by rfl, ?_⟩) (by assumption) ?_
            rotate_left
            · intro w hSw; clear hSw; first | (go_simp; done) | (go_simp; with_reducible rfl)
            simp only [Act.put, List.getElem_toArray, List.getElem_cons_succ, List.getElem_cons_zero, List.setIfInBounds_toArray, List.set_cons_zero, List.set_cons_succ]
            refine wpAnyH_take (i := 7) (oi := _) (v := ?_) rfl (by kernel_rfl) (by kernel_rfl) (by kernel_rfl) (fun _ _ _ h => h) (Or.inl ⟨by rfl, ?_⟩) (by assumption) ?_
            rotate_left
            · intro w hSw; clear hSw; first | (go_simp; done) | (go_simp; with_reducible rfl)
            simp only [Act.put, List.getElem_toArray, List.getElem_cons_succ, List.getElem_cons_zero, List.setIfInBounds_toArray, List.set_cons_zero, List.set_cons_succ]
            refine wpAnyH_take (i := 8) (oi := _) (v := _) rfl ?g1_1 ?g2_1 ?g3_1 (fun _ _ _ h => h) (yieldsIf_load_mid ?g4_1 _ _ rfl g ?oo_1 ?g5_1 (gc y) _ ?g6_1 Tryz.underlying76 rfl (info_gc y)) ?g7_1 ?_
            case g5_1 => rfl
            case g1_1 => kernel_rfl
            case g2_1 => kernel_rfl
            case g3_1 => kernel_rfl
            case g6_1 => exact (fun _ h => h.1)
            case g4_1 => kernel_rfl
            case g7_1 => assumption
            simp only [Act.put, List.getElem_toArray, List.getElem_cons_succ, List.getElem_cons_zero, List.setIfInBounds_toArray, List.set_cons_zero, List.set_cons_succ]
            refine wpAnyH_take (i := 9) (oi := _) (v := ?_) rfl (by kernel_rfl) (by kernel_rfl) (by kernel_rfl) (fun _ _ _ h => h) (Or.inl ⟨by rfl, ?_⟩) (by assumption) ?_
            rotate_left
            · intro w hSw; clear hSw; first | (go_simp; done) | (go_simp; with_reducible rfl)
            simp only [Act.put, List.getElem_toArray, List.getElem_cons_succ, List.getElem_cons_zero, List.setIfInBounds_toArray, List.set_cons_zero, List.set_cons_succ]
            refine wpAnyH_take (i := 10) (oi := _) (v := ?_) rfl (by kernel_rfl) (by kernel_rfl) (by kernel_rfl) (fun _ _ _ h => h) (Or.inl ⟨by rfl, ?_⟩) (by assumption) ?_
            rotate_left
            · intro w hSw; clear hSw; first | (go_simp; done) | (go_simp; with_reducible rfl)
            simp only [Act.put, List.getElem_toArray, List.getElem_cons_succ, List.getElem_cons_zero, List.setIfInBounds_toArray, List.set_cons_zero, List.set_cons_succ]
            refine wpAnyH_take (i := 11) (oi := _) (v := ?_) rfl (by kernel_rfl) (by kernel_rfl) (by kernel_rfl) (fun _ _ _ h => h) (Or.inl ⟨by rfl, ?_⟩) (by assumption) ?_
            rotate_left
            · intro w hSw; clear hSw; first | (go_simp; done) | (go_simp; with_reducible rfl)
            simp only [Act.put, List.getElem_toArray, List.getElem_cons_succ, List.getElem_cons_zero, List.setIfInBounds_toArray, List.set_cons_zero, List.set_cons_succ]
            refine wpAnyH_take (i := 12) (oi := _) (v := ?_) rfl (by kernel_rfl) (by kernel_rfl) (by kernel_rfl) (fun _ _ _ h => h) (Or.inl ⟨by rfl, ?_⟩) (by assumption) ?_
            rotate_left
            · intro w hSw; clear hSw; first | (go_simp; done) | (go_simp; with_reducible rfl)
            simp only [Act.put, List.getElem_toArray, List.getElem_cons_succ, List.getElem_cons_zero, List.setIfInBounds_toArray, List.set_cons_zero, List.set_cons_succ]
            refine wpAnyH_take (i := 13) (oi := _) (v := _) rfl ?g1_2 ?g2_2 ?g3_2 (fun _ _ _ h => h) (yieldsIf_load_mid ?g4_2 _ _ rfl g ?oo_2 ?g5_2 (gc x) _ ?g6_2 Tryz.underlying76 rfl (info_gc x)) ?g7_2 ?_
            case g5_2 => rfl
            case g1_2 => kernel_rfl
            case g2_2 => kernel_rfl
            case g3_2 => kernel_rfl
            case g6_2 => exact (fun _ h => h.2.1)
            case g4_2 => kernel_rfl
            case g7_2 => assumption
            simp only [Act.put, List.getElem_toArray, List.getElem_cons_succ, List.getElem_cons_zero, List.setIfInBounds_toArray, List.set_cons_zero, List.set_cons_succ]
            refine wpAnyH_ready (rs := [14]) (by kernel_rfl) (by simp) ?_
            refine AllReadyH.cons (o := _) rfl (fun K hK => ?_) AllReadyH.nil
            go_simp
            refine (KC.out _ hHeld.2.2).mono ?_
            rintro e x2 ⟨rfl, hx2⟩
            go_wp2_with fail
            refine hK.out _ _ ⟨rangeAt_below hHeld.1 hx2, rangeAt_below hHeld.2.1 hx2, Below_then hHeld.2.2 hx2⟩ (fun hHeld => ?_)
            clear hK K
            try simp only [Act.put, List.getElem_toArray, List.getElem_cons_succ, List.getElem_cons_zero, List.setIfInBounds_toArray, List.set_cons_zero, List.set_cons_succ]
            refine wpAnyH_take (i := 15) (oi := _) (v := ?_) rfl (by kernel_rfl) (by kernel_rfl) (by kernel_rfl) (fun _ _ _ h => h) (Or.inl ⟨by rfl, ?_⟩) (by assumption) ?_
            rotate_left
            · intro w hSw; clear hSw; first | (go_simp; done) | (go_simp; with_reducible rfl)
            simp only [Act.put, List.getElem_toArray, List.getElem_cons_succ, List.getElem_cons_zero, List.setIfInBounds_toArray, List.set_cons_zero, List.set_cons_succ]
            refine wpAnyH_take (i := 16) (oi := _) (v := ?_) rfl (by kernel_rfl) (by kernel_rfl) (by kernel_rfl) (fun _ _ _ h => h) (Or.inl ⟨by rfl, ?_⟩) (by assumption) ?_
            rotate_left
            · intro w hSw; clear hSw; first | (go_simp; done) | (go_simp; with_reducible rfl)
            simp only [Act.put, List.getElem_toArray, List.getElem_cons_succ, List.getElem_cons_zero, List.setIfInBounds_toArray, List.set_cons_zero, List.set_cons_succ]
            refine wpAnyH_done (by kernel_rfl) ?_ _
            refine NoPanic.normal ?_
            have hO4 := HO.out.below hHeld.2.2
            have hg4 := grownBy_below HG.out hHeld.2.2
            have HSK := Lib.hid (Sink.step f HS.out (by omega) hjk HX.out HY.out (by omega))
            have HSA := Lib.hid (fun v => (swp_at f (show 0 < jm + 1 by omega) HX.out HY.out (by omega) v).trans (HAT.out v))
            have HSL := Lib.hid ((swp_len l2 (jm + 1) x y).trans HLEN.out)
            clear hHeld
            go_wp2_with fail
            refine wp_region_noPanic ?_
            refine wp_region_held_drew (S := (fun _ => True)) (by kernel_rfl) trivial (fun hHeld => ?_)
            have hO5 := hO4.below (Below.refl x2.heap.size x2).drew
            have hg5 := grownBy_below hg4 (Below.refl x2.heap.size x2).drew
            generalize x2.drew = wz at hO5 hg5 ⊢
            clear hO4 hg4
            refine wpAnyH_take (i := 0) (oi := _) (v := ?_) rfl (by kernel_rfl) (by kernel_rfl) (by kernel_rfl) (fun _ _ _ h => h) (Or.inl ⟨by rfl, ?_⟩) (by assumption) ?_
            rotate_left
            · intro w hSw; clear hSw; first | (go_simp; done) | (go_simp; with_reducible rfl)
            simp only [Act.put, List.getElem_toArray, List.getElem_cons_succ, List.getElem_cons_zero, List.setIfInBounds_toArray, List.set_cons_zero, List.set_cons_succ]
            refine wpAnyH_take (i := 1) (oi := _) (v := ?_) rfl (by kernel_rfl) (by kernel_rfl) (by kernel_rfl) (fun _ _ _ h => h) (Or.inl ⟨by rfl, ?_⟩) (by assumption) ?_
            rotate_left
            · intro w hSw; clear hSw; first | (go_simp; done) | (go_simp; with_reducible rfl)
            simp only [Act.put, List.getElem_toArray, List.getElem_cons_succ, List.getElem_cons_zero, List.setIfInBounds_toArray, List.set_cons_zero, List.set_cons_succ]
            refine wpAnyH_take (i := 2) (oi := _) (v := ?_) rfl (by kernel_rfl) (by kernel_rfl) (by kernel_rfl) (fun _ _ _ h => h) (Or.inl ⟨by rfl, ?_⟩) (by assumption) ?_
            rotate_left
            · intro w hSw; clear hSw; first | (go_simp; done) | (go_simp; with_reducible rfl)
            simp only [Act.put, List.getElem_toArray, List.getElem_cons_succ, List.getElem_cons_zero, List.setIfInBounds_toArray, List.set_cons_zero, List.set_cons_succ]
            refine wpAnyH_take (i := 3) (oi := _) (v := ?_) rfl (by kernel_rfl) (by kernel_rfl) (by kernel_rfl) (fun _ _ _ h => h) (Or.inl ⟨by rfl, ?_⟩) (by assumption) ?_
            rotate_left
            · intro w hSw; clear hSw; first | (go_simp; done) | (go_simp; with_reducible rfl)
            simp only [Act.put, List.getElem_toArray, List.getElem_cons_succ, List.getElem_cons_zero, List.setIfInBounds_toArray, List.set_cons_zero, List.set_cons_succ]
            refine wpAnyH_take (i := 4) (oi := _) (v := ?_) rfl (by kernel_rfl) (by kernel_rfl) (by kernel_rfl) (fun _ _ _ h => h) (Or.inl ⟨by rfl, ?_⟩) (by assumption) ?_
            rotate_left
            · intro w hSw; clear hSw; first | (go_simp; done) | (go_simp; with_reducible rfl)
            simp only [Act.put, List.getElem_toArray, List.getElem_cons_succ, List.getElem_cons_zero, List.setIfInBounds_toArray, List.set_cons_zero, List.set_cons_succ]
            refine wpAnyH_take (i := 5) (oi := _) (v := ?_) rfl (by kernel_rfl) (by kernel_rfl) (by kernel_rfl) (fun _ _ _ h => h) (Or.inl ⟨by rfl, ?_⟩) (by assumption) ?_
            rotate_left
            · intro w hSw; clear hSw; first | (go_simp; done) | (go_simp; with_reducible rfl)
            simp only [Act.put, List.getElem_toArray, List.getElem_cons_succ, List.getElem_cons_zero, List.setIfInBounds_toArray, List.set_cons_zero, List.set_cons_succ]
            refine wpAnyH_take (i := 6) (oi := _) (v := ?_) rfl (by kernel_rfl) (by kernel_rfl) (by kernel_rfl) (fun _ _ _ h => h) (Or.inl ⟨by rfl, ?_⟩) (by assumption) ?_
            rotate_left
            · intro w hSw; clear hSw; first | (go_simp; done) | (go_simp; with_reducible rfl)
            simp only [Act.put, List.getElem_toArray, List.getElem_cons_succ, List.getElem_cons_zero, List.setIfInBounds_toArray, List.set_cons_zero, List.set_cons_succ]
            refine wpAnyH_take (i := 7) (oi := _) (v := ?_) rfl (by kernel_rfl) (by kernel_rfl) (by kernel_rfl) (fun _ _ _ h => h) (Or.inl ⟨by rfl, ?_⟩) (by assumption) ?_
            rotate_left
            · intro w hSw; clear hSw; first | (go_simp; done) | (go_simp; with_reducible rfl)
            simp only [Act.put, List.getElem_toArray, List.getElem_cons_succ, List.getElem_cons_zero, List.setIfInBounds_toArray, List.set_cons_zero, List.set_cons_succ]
            refine wpAnyH_take (i := 8) (oi := _) (v := ?_) rfl (by kernel_rfl) (by kernel_rfl) (by kernel_rfl) (fun _ _ _ h => h) (Or.inl ⟨by rfl, ?_⟩) (by assumption) ?_
            rotate_left
            · intro w hSw; clear hSw; first | (go_simp; done) | (go_simp; with_reducible rfl)
            simp only [Act.put, List.getElem_toArray, List.getElem_cons_succ, List.getElem_cons_zero, List.setIfInBounds_toArray, List.set_cons_zero, List.set_cons_succ]
            refine wpAnyH_take (i := 10) (oi := _) (v := ?_) rfl (by kernel_rfl) (by kernel_rfl) (by kernel_rfl) (fun _ _ _ h => h) (Or.inl ⟨by rfl, ?_⟩) (by assumption) ?_
            rotate_left
            · intro w hSw; clear hSw; first | (go_simp; done) | (go_simp; with_reducible rfl)
            simp only [Act.put, List.getElem_toArray, List.getElem_cons_succ, List.getElem_cons_zero, List.setIfInBounds_toArray, List.set_cons_zero, List.set_cons_succ]
            refine wpAnyH_take (i := 11) (oi := _) (v := ?_) rfl (by kernel_rfl) (by kernel_rfl) (by kernel_rfl) (fun _ _ _ h => h) (Or.inl ⟨by rfl, ?_⟩) (by assumption) ?_
            rotate_left
            · intro w hSw; clear hSw; first | (go_simp; done) | (go_simp; with_reducible rfl)
            simp only [Act.put, List.getElem_toArray, List.getElem_cons_succ, List.getElem_cons_zero, List.setIfInBounds_toArray, List.set_cons_zero, List.set_cons_succ]
            refine wpAnyH_take (i := 12) (oi := _) (v := ?_) rfl (by kernel_rfl) (by kernel_rfl) (by kernel_rfl) (fun _ _ _ h => h) (Or.inl ⟨by rfl, ?_⟩) (by assumption) ?_
            rotate_left
            · intro w hSw; clear hSw; first | (go_simp; done) | (go_simp; with_reducible rfl)
            simp only [Act.put, List.getElem_toArray, List.getElem_cons_succ, List.getElem_cons_zero, List.setIfInBounds_toArray, List.set_cons_zero, List.set_cons_succ]
            refine wpAnyH_ready (rs := [9, 13]) (by kernel_rfl) (by simp) ?_
            refine AllReadyH.cons (o := _) rfl (fun K hK => ?_) (AllReadyH.cons (o := _) rfl (fun K hK => ?_) AllReadyH.nil)
            · refine ite_intro (by kernel_rfl) ?_
              refine wp_load_mid 76 (.tmp 45) rfl g (jm * 18) rfl (gc x) _ (hO5.row HX.out) Tryz.underlying76 rfl (info_gc x) ?_
              refine hK.out _ _ trivial (fun hHeld => ?_)
              clear hK K
              try simp only [Act.put, List.getElem_toArray, List.getElem_cons_succ, List.getElem_cons_zero, List.setIfInBounds_toArray, List.set_cons_zero, List.set_cons_succ]
              refine wpAnyH_ready (rs := [13]) (by kernel_rfl) (by simp) ?_
              refine AllReadyH.cons (o := _) rfl (fun K hK => ?_) AllReadyH.nil
              refine ite_intro (by kernel_rfl) ?_
              refine wp_load_mid 76 (.tmp 49) rfl g ((jm + 1) * 18) rfl (gc y) _ (hO5.row HY.out) Tryz.underlying76 rfl (info_gc y) ?_
              refine hK.out _ _ trivial (fun hHeld => ?_)
              clear hK K
              try simp only [Act.put, List.getElem_toArray, List.getElem_cons_succ, List.getElem_cons_zero, List.setIfInBounds_toArray, List.set_cons_zero, List.set_cons_succ]
              refine wpAnyH_take (i := 14) (oi := _) (v := ?_) rfl (by kernel_rfl) (by kernel_rfl) (by kernel_rfl) (fun _ _ _ h => h) (Or.inl ⟨by rfl, ?_⟩) (by assumption) ?_
              rotate_left
              · intro w hSw; clear hSw; first | (go_simp; done) | (go_simp; with_reducible rfl)
              simp only [Act.put, List.getElem_toArray, List.getElem_cons_succ, List.getElem_cons_zero, List.setIfInBounds_toArray, List.set_cons_zero, List.set_cons_succ]
              refine wpAnyH_ready (rs := [15]) (by kernel_rfl) (by simp) ?_
              refine AllReadyH.cons (o := _) rfl (fun K hK => ?_) AllReadyH.nil
              refine ite_intro (by kernel_rfl) ?_
              refine wp_stRow (.tmp 51) (.tmp 46) rfl B g c (jm + 1) l2 x hO5 (by first | omega | (rw [List.length_set]; omega)) _ rfl (by omega) rfl ?_
              intro u1 hu1 gu1
              refine hK.out _ _ trivial (fun hHeld => ?_)
              clear hK K
              try simp only [Act.put, List.getElem_toArray, List.getElem_cons_succ, List.getElem_cons_zero, List.setIfInBounds_toArray, List.set_cons_zero, List.set_cons_succ]
              refine wpAnyH_take (i := 16) (oi := _) (v := ?_) rfl (by kernel_rfl) (by kernel_rfl) (by kernel_rfl) (fun _ _ _ h => h) (Or.inl ⟨by rfl, ?_⟩) (by assumption) ?_
              rotate_left
              · intro w hSw; clear hSw; first | (go_simp; done) | (go_simp; with_reducible rfl)
              simp only [Act.put, List.getElem_toArray, List.getElem_cons_succ, List.getElem_cons_zero, List.setIfInBounds_toArray, List.set_cons_zero, List.set_cons_succ]
              refine wpAnyH_ready (rs := [17]) (by kernel_rfl) (by simp) ?_
              refine AllReadyH.cons (o := _) rfl (fun K hK => ?_) AllReadyH.nil
              refine ite_intro (by kernel_rfl) ?_
              refine wp_stRow (.tmp 52) (.tmp 50) rfl B g c (jm) (l2.set (jm + 1) x) y hu1 (by first | omega | (rw [List.length_set]; omega)) _ rfl (by omega) rfl ?_
              intro u2 hu2 gu2
              refine hK.out _ _ trivial (fun hHeld => ?_)
              clear hK K
              try simp only [Act.put, List.getElem_toArray, List.getElem_cons_succ, List.getElem_cons_zero, List.setIfInBounds_toArray, List.set_cons_zero, List.set_cons_succ]
              refine wpAnyH_done (by kernel_rfl) ?_ _
              refine NoPanic.normal ?_
              have hsw : (l2.set (jm + 1) x).set jm y = swp l2 (jm + 1) x y := rfl
              rw [hsw] at hu2
              have hg6 := grownBy_trans (grownBy_trans hg5 gu1) gu2
              clear hO5 hu1 gu1 gu2 hg5 hsw
              go_wp2
              go_roundw
              case rel => exact ⟨jm, swp l2 (jm + 1) x y, by omega, by go_num, HSK.out, HSA.out, HSL.out, hu2, hg6⟩
              case measure => first | (simp [intOf]; done) | (simp [intOf]; omega)
            · refine ite_intro (by kernel_rfl) ?_
              refine wp_load_mid 76 (.tmp 49) rfl g ((jm + 1) * 18) rfl (gc y) _ (hO5.row HY.out) Tryz.underlying76 rfl (info_gc y) ?_
              refine hK.out _ _ trivial (fun hHeld => ?_)
              clear hK K
              try simp only [Act.put, List.getElem_toArray, List.getElem_cons_succ, List.getElem_cons_zero, List.setIfInBounds_toArray, List.set_cons_zero, List.set_cons_succ]
              refine wpAnyH_ready (rs := [9]) (by kernel_rfl) (by simp) ?_
              refine AllReadyH.cons (o := _) rfl (fun K hK => ?_) AllReadyH.nil
              refine ite_intro (by kernel_rfl) ?_
              refine wp_load_mid 76 (.tmp 45) rfl g (jm * 18) rfl (gc x) _ (hO5.row HX.out) Tryz.underlying76 rfl (info_gc x) ?_
              refine hK.out _ _ trivial (fun hHeld => ?_)
              clear hK K
              try simp only [Act.put, List.getElem_toArray, List.getElem_cons_succ, List.getElem_cons_zero, List.setIfInBounds_toArray, List.set_cons_zero, List.set_cons_succ]
              refine wpAnyH_take (i := 14) (oi := _) (v := ?_) rfl (by kernel_rfl) (by kernel_rfl) (by kernel_rfl) (fun _ _ _ h => h) (Or.inl ⟨by rfl, ?_⟩) (by assumption) ?_
              rotate_left
              · intro w hSw; clear hSw; first | (go_simp; done) | (go_simp; with_reducible rfl)
              simp only [Act.put, List.getElem_toArray, List.getElem_cons_succ, List.getElem_cons_zero, List.setIfInBounds_toArray, List.set_cons_zero, List.set_cons_succ]
              refine wpAnyH_ready (rs := [15]) (by kernel_rfl) (by simp) ?_
              refine AllReadyH.cons (o := _) rfl (fun K hK => ?_) AllReadyH.nil
              refine ite_intro (by kernel_rfl) ?_
              refine wp_stRow (.tmp 51) (.tmp 46) rfl B g c (jm + 1) l2 x hO5 (by first | omega | (rw [List.length_set]; omega)) _ rfl (by omega) rfl ?_
              intro u1 hu1 gu1
              refine hK.out _ _ trivial (fun hHeld => ?_)
              clear hK K
              try simp only [Act.put, List.getElem_toArray, List.getElem_cons_succ, List.getElem_cons_zero, List.setIfInBounds_toArray, List.set_cons_zero, List.set_cons_succ]
              refine wpAnyH_take (i := 16) (oi := _) (v := ?_) rfl (by kernel_rfl) (by kernel_rfl) (by kernel_rfl) (fun _ _ _ h => h) (Or.inl ⟨by rfl, ?_⟩) (by assumption) ?_
              rotate_left
              · intro w hSw; clear hSw; first | (go_simp; done) | (go_simp; with_reducible rfl)
              simp only [Act.put, List.getElem_toArray, List.getElem_cons_succ, List.getElem_cons_zero, List.setIfInBounds_toArray, List.set_cons_zero, List.set_cons_succ]
              refine wpAnyH_ready (rs := [17]) (by kernel_rfl) (by simp) ?_
              refine AllReadyH.cons (o := _) rfl (fun K hK => ?_) AllReadyH.nil
              refine ite_intro (by kernel_rfl) ?_
              refine wp_stRow (.tmp 52) (.tmp 50) rfl B g c (jm) (l2.set (jm + 1) x) y hu1 (by first | omega | (rw [List.length_set]; omega)) _ rfl (by omega) rfl ?_
              intro u2 hu2 gu2
              refine hK.out _ _ trivial (fun hHeld => ?_)
              clear hK K
              try simp only [Act.put, List.getElem_toArray, List.getElem_cons_succ, List.getElem_cons_zero, List.setIfInBounds_toArray, List.set_cons_zero, List.set_cons_succ]
              refine wpAnyH_done (by kernel_rfl) ?_ _
              refine NoPanic.normal ?_
              have hsw : (l2.set (jm + 1) x).set jm y = swp l2 (jm + 1) x y := rfl
              rw [hsw] at hu2
              have hg6 := grownBy_trans (grownBy_trans hg5 gu1) gu2
              clear hO5 hu1 gu1 gu2 hg5 hsw
              go_wp2
              go_roundw
              case rel => exact ⟨jm, swp l2 (jm + 1) x y, by omega, by go_num, HSK.out, HSA.out, HSL.out, hu2, hg6⟩
              case measure => first | (simp [intOf]; done) | (simp [intOf]; omega)
          · have hsto : Pre f l2 (k + 1) := Sink.stop f HS.out (fun p q _ hp hq2 => by
              rw [Nat.add_sub_cancel, HX.out] at hp
              rw [HY.out] at hq2
              obtain rfl := Option.some.inj hp
              obtain rfl := Option.some.inj hq2
              omega)
            have HST := Lib.hid hsto
            clear hsto
            go_wp2_with fail
            refine wp_region_noPanic ?_
            refine wp_region_held_drew (S := (fun w' => w'.rangeAt g ((jm + 1) * 18) (gc y) ∧ w'.rangeAt g (jm * 18) (gc x) ∧ Below wr.heap.size wr w')) (by kernel_rfl) ⟨hry, hrx, (Below.refl _ _).drew⟩ (fun hHeld => ?_)
            refine wpAnyH_take (i := 0) (oi := _) (v := ?_) rfl (by kernel_rfl) (by kernel_rfl) (by kernel_rfl) (fun _ _ _ h => h) (Or.inl ⟨by rfl, ?_⟩) (by assumption) ?_
            rotate_left
            · intro w hSw; clear hSw; first | (go_simp; done) | (go_simp; with_reducible rfl)
            simp only [Act.put, List.getElem_toArray, List.getElem_cons_succ, List.getElem_cons_zero, List.setIfInBounds_toArray, List.set_cons_zero, List.set_cons_succ]
            refine wpAnyH_take (i := 1) (oi := _) (v := ?_) rfl (by kernel_rfl) (by kernel_rfl) (by kernel_rfl) (fun _ _ _ h => h) (Or.inl ⟨by rfl, ?_⟩) (by assumption) ?_
            rotate_left
            · intro w hSw; clear hSw; first | (go_simp; done) | (go_simp; with_reducible rfl)
            simp only [Act.put, List.getElem_toArray, List.getElem_cons_succ, List.getElem_cons_zero, List.setIfInBounds_toArray, List.set_cons_zero, List.set_cons_succ]
            refine wpAnyH_take (i := 2) (oi := _) (v := ?_) rfl (by kernel_rfl) (by kernel_rfl) (by kernel_rfl) (fun _ _ _ h => h) (Or.inl ⟨by rfl, ?_⟩) (by assumption) ?_
            rotate_left
            · intro w hSw; clear hSw; first | (go_simp; done) | (go_simp; with_reducible rfl)
            simp only [Act.put, List.getElem_toArray, List.getElem_cons_succ, List.getElem_cons_zero, List.setIfInBounds_toArray, List.set_cons_zero, List.set_cons_succ]
            refine wpAnyH_take (i := 3) (oi := _) (v := ?_) rfl (by kernel_rfl) (by kernel_rfl) (by kernel_rfl) (fun _ _ _ h => h) (Or.inl ⟨by rfl, ?_⟩) (by assumption) ?_
            rotate_left
            · intro w hSw; clear hSw; first | (go_simp; done) | (go_simp; with_reducible rfl)
            simp only [Act.put, List.getElem_toArray, List.getElem_cons_succ, List.getElem_cons_zero, List.setIfInBounds_toArray, List.set_cons_zero, List.set_cons_succ]
            refine wpAnyH_take (i := 4) (oi := _) (v := ?_) rfl (by kernel_rfl) (by kernel_rfl) (by kernel_rfl) (fun _ _ _ h => h) (Or.inl ⟨by rfl, ?_⟩) (by assumption) ?_
            rotate_left
            · intro w hSw; clear hSw; first | (go_simp; done) | (go_simp; with_reducible rfl)
            simp only [Act.put, List.getElem_toArray, List.getElem_cons_succ, List.getElem_cons_zero, List.setIfInBounds_toArray, List.set_cons_zero, List.set_cons_succ]
            refine wpAnyH_take (i := 5) (oi := _) (v := ?_) rfl (by kernel_rfl) (by kernel_rfl) (by kernel_rfl) (fun _ _ _ h => h) (Or.inl ⟨by rfl, ?_⟩) (by assumption) ?_
            rotate_left
            · intro w hSw; clear hSw; first | (go_simp; done) | (go_simp; with_reducible rfl)
            simp only [Act.put, List.getElem_toArray, List.getElem_cons_succ, List.getElem_cons_zero, List.setIfInBounds_toArray, List.set_cons_zero, List.set_cons_succ]
            refine wpAnyH_take (i := 6) (oi := _) (v := ?_) rfl (by kernel_rfl) (by kernel_rfl) (by kernel_rfl) (fun _ _ _ h => h) (Or.inl ⟨by rfl, ?_⟩) (by assumption) ?_
            rotate_left
            · intro w hSw; clear hSw; first | (go_simp; done) | (go_simp; with_reducible rfl)
            simp only [Act.put, List.getElem_toArray, List.getElem_cons_succ, List.getElem_cons_zero, List.setIfInBounds_toArray, List.set_cons_zero, List.set_cons_succ]
            refine wpAnyH_take (i := 7) (oi := _) (v := ?_) rfl (by kernel_rfl) (by kernel_rfl) (by kernel_rfl) (fun _ _ _ h => h) (Or.inl ⟨by rfl, ?_⟩) (by assumption) ?_
            rotate_left
            · intro w hSw; clear hSw; first | (go_simp; done) | (go_simp; with_reducible rfl)
            simp only [Act.put, List.getElem_toArray, List.getElem_cons_succ, List.getElem_cons_zero, List.setIfInBounds_toArray, List.set_cons_zero, List.set_cons_succ]
            refine wpAnyH_take (i := 8) (oi := _) (v := _) rfl ?g1_1 ?g2_1 ?g3_1 (fun _ _ _ h => h) (yieldsIf_load_mid ?g4_1 _ _ rfl g ?oo_1 ?g5_1 (gc y) _ ?g6_1 Tryz.underlying76 rfl (info_gc y)) ?g7_1 ?_
            case g5_1 => rfl
            case g1_1 => kernel_rfl
            case g2_1 => kernel_rfl
            case g3_1 => kernel_rfl
            case g6_1 => exact (fun _ h => h.1)
            case g4_1 => kernel_rfl
            case g7_1 => assumption
            simp only [Act.put, List.getElem_toArray, List.getElem_cons_succ, List.getElem_cons_zero, List.setIfInBounds_toArray, List.set_cons_zero, List.set_cons_succ]
            refine wpAnyH_take (i := 9) (oi := _) (v := ?_) rfl (by kernel_rfl) (by kernel_rfl) (by kernel_rfl) (fun _ _ _ h => h) (Or.inl ⟨by rfl, ?_⟩) (by assumption) ?_
            rotate_left
            · intro w hSw; clear hSw; first | (go_simp; done) | (go_simp; with_reducible rfl)
            simp only [Act.put, List.getElem_toArray, List.getElem_cons_succ, List.getElem_cons_zero, List.setIfInBounds_toArray, List.set_cons_zero, List.set_cons_succ]
            refine wpAnyH_take (i := 10) (oi := _) (v := ?_) rfl (by kernel_rfl) (by kernel_rfl) (by kernel_rfl) (fun _ _ _ h => h) (Or.inl ⟨by rfl, ?_⟩) (by assumption) ?_
            rotate_left
            · intro w hSw; clear hSw; first | (go_simp; done) | (go_simp; with_reducible rfl)
            simp only [Act.put, List.getElem_toArray, List.getElem_cons_succ, List.getElem_cons_zero, List.setIfInBounds_toArray, List.set_cons_zero, List.set_cons_succ]
            refine wpAnyH_take (i := 11) (oi := _) (v := ?_) rfl (by kernel_rfl) (by kernel_rfl) (by kernel_rfl) (fun _ _ _ h => h) (Or.inl ⟨by rfl, ?_⟩) (by assumption) ?_
            rotate_left
            · intro w hSw; clear hSw; first | (go_simp; done) | (go_simp; with_reducible rfl)
            simp only [Act.put, List.getElem_toArray, List.getElem_cons_succ, List.getElem_cons_zero, List.setIfInBounds_toArray, List.set_cons_zero, List.set_cons_succ]
            refine wpAnyH_take (i := 12) (oi := _) (v := ?_) rfl (by kernel_rfl) (by kernel_rfl) (by kernel_rfl) (fun _ _ _ h => h) (Or.inl ⟨by rfl, ?_⟩) (by assumption) ?_
            rotate_left
            · intro w hSw; clear hSw; first | (go_simp; done) | (go_simp; with_reducible rfl)
            simp only [Act.put, List.getElem_toArray, List.getElem_cons_succ, List.getElem_cons_zero, List.setIfInBounds_toArray, List.set_cons_zero, List.set_cons_succ]
            refine wpAnyH_take (i := 13) (oi := _) (v := _) rfl ?g1_2 ?g2_2 ?g3_2 (fun _ _ _ h => h) (yieldsIf_load_mid ?g4_2 _ _ rfl g ?oo_2 ?g5_2 (gc x) _ ?g6_2 Tryz.underlying76 rfl (info_gc x)) ?g7_2 ?_
            case g5_2 => rfl
            case g1_2 => kernel_rfl
            case g2_2 => kernel_rfl
            case g3_2 => kernel_rfl
            case g6_2 => exact (fun _ h => h.2.1)
            case g4_2 => kernel_rfl
            case g7_2 => assumption
            simp only [Act.put, List.getElem_toArray, List.getElem_cons_succ, List.getElem_cons_zero, List.setIfInBounds_toArray, List.set_cons_zero, List.set_cons_succ]
            refine wpAnyH_ready (rs := [14]) (by kernel_rfl) (by simp) ?_
            refine AllReadyH.cons (o := _) rfl (fun K hK => ?_) AllReadyH.nil
            go_simp
            refine (KC.out _ hHeld.2.2).mono ?_
            rintro e x2 ⟨rfl, hx2⟩
            go_wp2_with fail
            refine hK.out _ _ ⟨rangeAt_below hHeld.1 hx2, rangeAt_below hHeld.2.1 hx2, Below_then hHeld.2.2 hx2⟩ (fun hHeld => ?_)
            clear hK K
            try simp only [Act.put, List.getElem_toArray, List.getElem_cons_succ, List.getElem_cons_zero, List.setIfInBounds_toArray, List.set_cons_zero, List.set_cons_succ]
            refine wpAnyH_take (i := 15) (oi := _) (v := ?_) rfl (by kernel_rfl) (by kernel_rfl) (by kernel_rfl) (fun _ _ _ h => h) (Or.inl ⟨by rfl, ?_⟩) (by assumption) ?_
            rotate_left
            · intro w hSw; clear hSw; first | (go_simp; done) | (go_simp; with_reducible rfl)
            simp only [Act.put, List.getElem_toArray, List.getElem_cons_succ, List.getElem_cons_zero, List.setIfInBounds_toArray, List.set_cons_zero, List.set_cons_succ]
            refine wpAnyH_take (i := 16) (oi := _) (v := ?_) rfl (by kernel_rfl) (by kernel_rfl) (by kernel_rfl) (fun _ _ _ h => h) (Or.inl ⟨by rfl, ?_⟩) (by assumption) ?_
            rotate_left
            · intro w hSw; clear hSw; first | (go_simp; done) | (go_simp; with_reducible rfl)
            simp only [Act.put, List.getElem_toArray, List.getElem_cons_succ, List.getElem_cons_zero, List.setIfInBounds_toArray, List.set_cons_zero, List.set_cons_succ]
            refine wpAnyH_done (by kernel_rfl) ?_ _
            refine NoPanic.normal ?_
            have hg2 := grownBy_below HG.out hHeld.2.2
            have hO2 := HO.out.below hHeld.2.2
            clear hHeld
            go_wp2
            go_roundw
            case rel => exact ⟨k + 1, l2, by omega, .inl (by omega), by go_num, HST.out, HAT.out, HLEN.out, hO2, hg2⟩
            case measure => simp [intOf]; omega
    · have hpre2 : Pre f l l.length := fun p q x y h1 h2 => hpre p q x y h1 (by omega)
      have HD := Lib.hid (Pre.desc f hpre2)
      clear hpre hpre2 hat
      have i1 : ¬ (k : Int) < (rows.length : Int) := by omega
      go_wp2
      exact bodyPost_ret (by simp [results, Tryz.results123, go_sem]) rfl ⟨rfl, l, HD.out, HAT.out, HLEN.out, hO, hg⟩
end Go.Proofs.YtmjgogklalploaaGreatDoor
/-! ### Rkd -/
namespace Go.Proofs.YtmjgogklalploaaGreatDoor
open Go.ChangeShapes Go.WideShapes Go.ChangeAt Go.RowKit
set_option linter.unusedVariables false
set_option linter.unusedSimpArgs false
/-- Two rows of numbers of the call's own, in two blocks. -/
structure Two (w : World) (B : Nat) (u v : Value) (xs ys : List Int) : Prop where
  fst : OwnI w B 3 u xs
  snd : OwnI w B 3 v ys
  sep : u.ownBlock = none ∨ u.ownBlock ≠ v.ownBlock
theorem Two.below {w w' : World} {B : Nat} {u v : Value} {xs ys : List Int} (h : Two w B u v xs ys) (hb : Below w.heap.size w w') : Two w' B u v xs ys := ⟨h.fst.below hb, h.snd.below hb, h.sep⟩
theorem Two.base {w : World} {B B' : Nat} {u v : Value} {xs ys : List Int} (h : Two w B u v xs ys) (hB : B' ≤ B) : Two w B' u v xs ys := ⟨OwnI.base h.fst hB, OwnI.base h.snd hB, h.sep⟩
theorem sep_symm {a b : Option Nat} (h : a = none ∨ a ≠ b) : b = none ∨ b ≠ a := by
  rcases h with h | h
  · subst h
    cases b
    · exact .inl rfl
    · exact .inr (by simp)
  · exact .inr fun e => h e.symm
theorem Two.fst' {w w' : World} {B : Nat} {u u' v : Value} {xs xs' ys : List Int} (h : Two w B u v xs ys) (ho : OwnI w' B 3 u' xs') (hg : w.grownBy w' u.ownBlock) (hat : u'.ownBlock = u.ownBlock ∨ u'.ownBlock = some w.heap.size) : Two w' B u' v xs' ys := by
  refine ⟨ho, h.snd.other hg (sep_symm h.sep), ?_⟩
  rcases hat with e | e
  · rw [e]; exact h.sep
  · rw [e]; exact .inr fun e2 => by have := (h.snd.lt _ e2.symm).2; omega
theorem Two.snd' {w w' : World} {B : Nat} {u v v' : Value} {xs ys ys' : List Int} (h : Two w B u v xs ys) (ho : OwnI w' B 3 v' ys') (hg : w.grownBy w' v.ownBlock) (hat : v'.ownBlock = v.ownBlock ∨ v'.ownBlock = some w.heap.size) : Two w' B u v' xs ys' := by
  refine ⟨h.fst.other hg h.sep, ho, ?_⟩
  rcases hat with e | e
  · rw [e]; exact h.sep
  · rw [e]; exact .inr fun e2 => by have := (h.fst.lt _ e2).2; omega
theorem Two.none0 (w : World) (B : Nat) (hB : B ≤ w.heap.size) : Two ((w.alloc (.cells #[] 3)).alloc (.cells #[] 3)) B (.slice (some ⟨w.heap.size, 0, none⟩) 0 0) (.slice (some ⟨w.heap.size + 1, 0, none⟩) 0 0) [] [] :=
  ⟨(OwnI.none0 w B w.heap.size rfl hB).alloc _, OwnI.none0 _ B (w.heap.size + 1) (by simp) (by omega), .inr (by simp [Value.ownBlock])⟩
def RkOk (w : World) (xs ys : List Int) (e : Ending) (w' : World) : Prop := ∃ u v, e = .returned (.tuple #[u, v]) ∧ Two w' w.heap.size u v xs ys ∧ Below w.heap.size w w'
section
variable {w : World} {ops : Array Oper} {rest : List Oper} {o : Oper} {a : Act} {Q : Exit → Act → World → Prop}
theorem wp_appAt (hgd : o.guard = none) (s x : Operand) (ho : o.op = .call { callee := .builtin .append, args := #[s, x], argTypes := #[32, 32] })
    (B : Nat) (v : Value) (zs : List Int) (hs : a.eval s = v) (hown : OwnI w B 3 v zs) (b : Nat) (z : Int) (hx : a.eval x = .slice (some ⟨b, 0, none⟩) 1 1) (hc : w.cell? ⟨b, 0, none⟩ = some (.int .i64 z))
    (hl : zs.length ≤ 1099511627776) (hB : B ≤ w.heap.size)
    (h : ∀ v' w', OwnI w' B 3 v' (zs ++ [z]) → w.grownBy w' v.ownBlock → Below B w w' → (v'.ownBlock = v.ownBlock ∨ v'.ownBlock = some w.heap.size) → wpList Tryz.prog ops Q rest (a.put o.dst v') w') : wpList Tryz.prog ops Q (o :: rest) a w := by
  obtain ⟨i0, hi, hz0, hz1, hz2⟩ := info_parts info_int
  refine wpList_append_own_at w hgd s x 32 ho B 3 i0 (.int .i64 0) 1 8 Tryz.underlying32 hi hz0 hz1 hz2 rfl (by decide) v zs.length (iv zs) hs hown ⟨b, 0, none⟩ 1 1 [.int .i64 z] hx rfl ?_ (fun u hu => by simp at hu; subst hu; rfl) (by unfold maxLen; omega) (by omega) hB fun v' w' h1 h2 _ h4 => h v' w' ?_ h2 (grown_below hown hB h2) h4
  · intro j u hj
    match j, hj with
    | 0, hj => simp at hj; subst hj; simpa [Addr.add] using hc
    | j + 1, hj => simp at hj
  · unfold OwnI
    rw [iv_append, List.length_append]
    exact h1
theorem step_appAt {K : Act → World → Prop} {E : Prop} (hgd : o.guard = none) (s x : Operand) (ho : o.op = .call { callee := .builtin .append, args := #[s, x], argTypes := #[32, 32] })
    (B : Nat) (v : Value) (zs : List Int) (hs : a.eval s = v) (hown : OwnI w B 3 v zs) (b : Nat) (z : Int) (hx : a.eval x = .slice (some ⟨b, 0, none⟩) 1 1) (hc : w.cell? ⟨b, 0, none⟩ = some (.int .i64 z))
    (hl : zs.length ≤ 1099511627776) (hB : B ≤ w.heap.size)
    (h : ∀ v' w', OwnI w' B 3 v' (zs ++ [z]) → w.grownBy w' v.ownBlock → Below B w w' → (v'.ownBlock = v.ownBlock ∨ v'.ownBlock = some w.heap.size) → K (a.put o.dst v') w') :
    if Region.wanted o (yielded ops a.tmps) = true then Oper.wp Tryz.prog o a w K Q else E := by
  have hw : Region.wanted o (yielded ops a.tmps) = true := by simp [Region.wanted, hgd]
  rw [if_pos hw]
  obtain ⟨i0, hi, hz0, hz1, hz2⟩ := info_parts info_int
  obtain ⟨v', w', hr, h1, h2, h3, h4⟩ := run_append_own_at (P := Tryz.prog) w B 32 o.type 3 i0 (.int .i64 0) 1 8 Tryz.underlying32 hi hz0 hz1 hz2 rfl (by decide) v zs.length (iv zs) hown ⟨b, 0, none⟩ 1 1 [.int .i64 z] rfl (by
    intro j u hj
    match j, hj with
    | 0, hj => simp at hj; subst hj; simpa [Addr.add] using hc
    | j + 1, hj => simp at hj) (fun u hu => by simp at hu; subst hu; rfl) (by unfold maxLen; omega) (by omega) hB
  unfold Oper.wp execOp
  simp only [ho, resolve, invoke, builtin, Sem.run_bind, Sem.run_pure, Result.andThen_ok, List.map_toArray, List.map_cons, List.map_nil, hs, hx, hr]
  refine h v' w' ?_ h2 (grown_below hown hB h2) h4
  unfold OwnI
  rw [iv_append, List.length_append]
  exact h1
end
theorem stableG_any (cl : FuncId) (caps : Array Value) (B g c : Nat) (f : GrantD → Int) (rows : List GrantD) (w : World) (h : OwnGr w B (.slice (some ⟨g, 0, none⟩) rows.length c) rows) (hl : rows.length ≤ 19)
    (hcf : ∀ args w, (callFunc cl args).run Tryz.prog w = .ok (.enter cl args) w)
    (hcl : ∀ (x y : GrantD) (w' : World), x ∈ rows → y ∈ rows → w.grownBy w' (some g) → Calls Tryz.prog cl (#[.agg (gc x).toArray, .agg (gc y).toArray] ++ caps) w' fun e w'' => e = .returned (.int .i64 (f y - f x)) ∧ Below w'.heap.size w' w'') :
    Calls Tryz.prog 101 #[.slice (some ⟨g, 0, none⟩) rows.length c, .int .i64 rows.length, .func (.func cl) #[] caps] w (SortPost w B g c f rows) := by
  have KI := Lib.hid (insG_any cl caps B g c f rows w h (by omega) hcf hcl)
  clear hcl h
  go_enter Tryz.func101, Tryz.ntmps101
  go_wp2_with fail
  go_loopw [7, 8] (fun x y wr => x = .int .i64 0 ∧ y = .int .i64 20 ∧ w = wr) (fun _ _ _ => 0)
  case atStart => exact ⟨rfl, rfl, rfl⟩
  case round =>
    obtain ⟨rfl, rfl, rfl⟩ := hrel
    have i1 : ¬ (20 : Int) ≤ (rows.length : Int) := by omega
    have i2 : ¬ (20 : Int) < (rows.length : Int) := by omega
    go_wp2_with fail
    refine KI.out.mono ?_
    rintro e w1 ⟨rfl, l, h1, h2, h3, h4, h5⟩
    have HP := Lib.hid (show SortPost w B g c f rows (.returned (.tuple #[])) w1 from ⟨rfl, l, h1, h2, h3, h4, h5⟩)
    clear h1 h2 h3 h4 h5
    go_wp2_with fail
    go_loopw [6] (fun x wr => x = .int .i64 20 ∧ w1 = wr) (fun _ _ => 0)
    case atStart => exact ⟨rfl, rfl⟩
    case round =>
      obtain ⟨rfl, rfl⟩ := hrel
      go_wp2
      exact bodyPost_ret (by simp [results, Tryz.results101, go_sem]) rfl HP.out
theorem sortG_any (cl : FuncId) (caps : Array Value) (B g c : Nat) (f : GrantD → Int) (rows : List GrantD) (w : World) (h : OwnGr w B (.slice (some ⟨g, 0, none⟩) rows.length c) rows) (hl : rows.length ≤ 19)
    (hcf : ∀ args w, (callFunc cl args).run Tryz.prog w = .ok (.enter cl args) w)
    (hcl : ∀ (x y : GrantD) (w' : World), x ∈ rows → y ∈ rows → w.grownBy w' (some g) → Calls Tryz.prog cl (#[.agg (gc x).toArray, .agg (gc y).toArray] ++ caps) w' fun e w'' => e = .returned (.int .i64 (f y - f x)) ∧ Below w'.heap.size w' w'') :
    Calls Tryz.prog 80 #[.slice (some ⟨g, 0, none⟩) rows.length c, .func (.func cl) #[] caps] w (SortPost w B g c f rows) := by
  have KI := Lib.hid (stableG_any cl caps B g c f rows w h hl hcf hcl)
  clear hcl h
  go_enter Tryz.func80, Tryz.ntmps80
  go_wp2_with fail
  refine KI.out.mono ?_
  rintro e w1 ⟨rfl, hp⟩
  have HP := Lib.hid (show SortPost w B g c f rows (.returned (.tuple #[])) w1 from ⟨rfl, hp⟩)
  clear hp
  go_wp2
  exact bodyPost_ret (by simp [results, Tryz.results80, go_sem]) rfl HP.out
theorem cf_rk (args : Array Value) (w : World) : (callFunc 81 args).run Tryz.prog w = .ok (.enter 81 args) w := by kernel_rfl
set_option maxHeartbeats 4000000 in
theorem rk_cl (cl : FuncId) (caps : Array Value) (f : GrantD → Int) (x y : GrantD) (D : Nat) (w : World) (hD : w.cell? ⟨D, 0, none⟩ = some (.func (.func cl) #[] caps)) (hbx : 0 ≤ f x ∧ f x ≤ 1000) (hby : 0 ≤ f y ∧ f y ≤ 1000)
    (hcf : ∀ args w, (callFunc cl args).run Tryz.prog w = .ok (.enter cl args) w)
    (hcl : ∀ (z : GrantD) (w' : World), z = x ∨ z = y → Below w.heap.size w w' → Calls Tryz.prog cl (#[.agg (gc z).toArray] ++ caps) w' fun e w'' => e = .returned (.int .i64 (f z)) ∧ Below w'.heap.size w' w'') :
    Calls Tryz.prog 81 #[.agg (gc x).toArray, .agg (gc y).toArray, .pointer (some ⟨D, 0, none⟩)] w fun e w' => e = .returned (.int .i64 (f y - f x)) ∧ Below w.heap.size w w' := by
  have KC := Lib.hid hcl
  have hW : Below w.heap.size w ((w.alloc (.cells (gc x).toArray 76)).alloc (.cells (gc y).toArray 76)) := Below_al (Below_al (Below.refl _ _) _) _
  have hD1 := keep_cell hD hW
  have hrx : ((w.alloc (.cells (gc x).toArray 76)).alloc (.cells (gc y).toArray 76)).rangeAt w.heap.size 0 (gc x) := rangeAt_blk (heap_keepA (heap_hit _ _ _ rfl) _)
  have hry : ((w.alloc (.cells (gc x).toArray 76)).alloc (.cells (gc y).toArray 76)).rangeAt (w.heap.size + 1) 0 (gc y) := rangeAt_blk (heap_hit _ _ _ (by simp))
  obtain ⟨fx, hfx⟩ : ∃ z, z = f x := ⟨_, rfl⟩
  obtain ⟨fy, hfy⟩ : ∃ z, z = f y := ⟨_, rfl⟩
  have hws : IntKind.i64.wrap (f y - f x) = f y - f x := by rw [IntKind.wrap_i64]; omega
  clear hcl hD hfx hfy
  go_enter Tryz.func81, Tryz.ntmps81
  go_wp2_with fail
  generalize (w.alloc (.cells (gc x).toArray 76)).alloc (.cells (gc y).toArray 76) = W0 at hD1 hrx hry hW ⊢
  refine wp_region_noPanic ?_
  refine wp_region_held_drew (S := (fun w' => w'.cell? ⟨D, 0, none⟩ = some (.func (.func cl) #[] caps : Value) ∧ w'.rangeAt (w.heap.size + 1) 0 (gc y) ∧ w'.rangeAt w.heap.size 0 (gc x) ∧ Below W0.heap.size W0 w')) (by kernel_rfl) ⟨hD1, hry, hrx, (Below.refl _ _).drew⟩ (fun hHeld => ?_)
  refine wpAnyH_take (i := 0) (oi := _) (v := ?_) rfl (by kernel_rfl) (by kernel_rfl) (by kernel_rfl) (fun _ _ _ h => h) (Or.inl ⟨by rfl, ?_⟩) (by assumption) ?_
  rotate_left
  · intro w hSw; (try dsimp only at hSw); first | (go_simp; done) | (go_simp; with_reducible rfl)
  simp only [Act.put, List.getElem_toArray, List.getElem_cons_succ, List.getElem_cons_zero, List.setIfInBounds_toArray, List.set_cons_zero, List.set_cons_succ]
  refine wpAnyH_take (i := 1) (oi := _) (v := _) rfl ?g1_1 ?g2_1 ?g3_1 (fun _ _ _ h => h) (yieldsIf_load_mid ?g4_1 _ _ rfl (w.heap.size + 1) ?oo_1 ?g5_1 (gc y) _ ?g6_1 Tryz.underlying76 rfl (info_gc y)) ?g7_1 ?_
  case g5_1 => rfl
  case g1_1 => kernel_rfl
  case g2_1 => kernel_rfl
  case g3_1 => kernel_rfl
  case g6_1 => exact (fun _ h => h.2.1)
  case g4_1 => kernel_rfl
  case g7_1 => assumption
  simp only [Act.put, List.getElem_toArray, List.getElem_cons_succ, List.getElem_cons_zero, List.setIfInBounds_toArray, List.set_cons_zero, List.set_cons_succ]
  refine wpAnyH_take (i := 3) (oi := _) (v := ?_) rfl (by kernel_rfl) (by kernel_rfl) (by kernel_rfl) (fun _ _ _ h => h) (Or.inl ⟨by rfl, ?_⟩) (by assumption) ?_
  rotate_left
  · intro w hSw; (try dsimp only at hSw); first | (go_simp; done) | (go_simp; with_reducible rfl)
  simp only [Act.put, List.getElem_toArray, List.getElem_cons_succ, List.getElem_cons_zero, List.setIfInBounds_toArray, List.set_cons_zero, List.set_cons_succ]
  refine wpAnyH_take (i := 4) (oi := _) (v := _) rfl ?g1_2 ?g2_2 ?g3_2 (fun _ _ _ h => h) (yieldsIf_load_mid ?g4_2 _ _ rfl w.heap.size ?oo_2 ?g5_2 (gc x) _ ?g6_2 Tryz.underlying76 rfl (info_gc x)) ?g7_2 ?_
  case g5_2 => rfl
  case g1_2 => kernel_rfl
  case g2_2 => kernel_rfl
  case g3_2 => kernel_rfl
  case g6_2 => exact (fun _ h => h.2.2.1)
  case g4_2 => kernel_rfl
  case g7_2 => assumption
  simp only [Act.put, List.getElem_toArray, List.getElem_cons_succ, List.getElem_cons_zero, List.setIfInBounds_toArray, List.set_cons_zero, List.set_cons_succ]
  refine wpAnyH_ready (rs := [2]) (by kernel_rfl) (by simp) ?_
  refine AllReadyH.cons (o := _) rfl (fun K hK => ?_) AllReadyH.nil
  go_simp
  refine (KC.out y _ (.inr rfl) (Below_then hW hHeld.2.2.2)).mono ?_
  rintro e x2 ⟨rfl, hx2⟩
  go_wp2_with fail
  refine hK.out _ _ ⟨keep_cell hHeld.1 hx2, rangeAt_below hHeld.2.1 hx2, rangeAt_below hHeld.2.2.1 hx2, Below_then hHeld.2.2.2 hx2⟩ (fun hHeld => ?_)
  clear hK K
  try simp only [Act.put, List.getElem_toArray, List.getElem_cons_succ, List.getElem_cons_zero, List.setIfInBounds_toArray, List.set_cons_zero, List.set_cons_succ]
  refine wpAnyH_ready (rs := [5]) (by kernel_rfl) (by simp) ?_
  refine AllReadyH.cons (o := _) rfl (fun K hK => ?_) AllReadyH.nil
  go_simp
  refine (KC.out x _ (.inl rfl) (Below_then hW hHeld.2.2.2)).mono ?_
  rintro e x3 ⟨rfl, hx3⟩
  go_wp2_with fail
  refine hK.out _ _ ⟨keep_cell hHeld.1 hx3, rangeAt_below hHeld.2.1 hx3, rangeAt_below hHeld.2.2.1 hx3, Below_then hHeld.2.2.2 hx3⟩ (fun hHeld => ?_)
  clear hK K
  try simp only [Act.put, List.getElem_toArray, List.getElem_cons_succ, List.getElem_cons_zero, List.setIfInBounds_toArray, List.set_cons_zero, List.set_cons_succ]
  refine wpAnyH_take (i := 6) (oi := _) (v := ?_) rfl (by kernel_rfl) (by kernel_rfl) (by kernel_rfl) (fun _ _ _ h => h) (Or.inl ⟨by rfl, ?_⟩) (by assumption) ?_
  rotate_left
  · intro w hSw; clear hSw; first | (go_simp; done) | (go_simp; with_reducible rfl)
  simp only [Act.put, List.getElem_toArray, List.getElem_cons_succ, List.getElem_cons_zero, List.setIfInBounds_toArray, List.set_cons_zero, List.set_cons_succ]
  refine wpAnyH_take (i := 7) (oi := _) (v := ?_) rfl (by kernel_rfl) (by kernel_rfl) (by kernel_rfl) (fun _ _ _ h => h) (Or.inl ⟨by rfl, ?_⟩) (by assumption) ?_
  rotate_left
  · intro w hSw; clear hSw; first | (go_simp; done) | (go_simp; with_reducible rfl)
  simp only [Act.put, List.getElem_toArray, List.getElem_cons_succ, List.getElem_cons_zero, List.setIfInBounds_toArray, List.set_cons_zero, List.set_cons_succ]
  refine wpAnyH_done (by kernel_rfl) ?_ _
  refine NoPanic.normal ?_
  have hb := hW.trans (hHeld.2.2.2.mono hW.size)
  clear hHeld
  try (refine hK _ _ ?_; clear hK K)
  go_wp2
  go_ret
  exact ⟨rfl, hb⟩
theorem keepCellG {w w' : World} {b i : Nat} {row : Option Nat} {u : Value} (h : w.cell? ⟨b, i, none⟩ = some u) (hg : w.grownBy w' row) (hne : row ≠ some b) : w'.cell? ⟨b, i, none⟩ = some u := (World.cell?_of_block (a := ⟨b, i, none⟩) (hg.block b (World.block_lt_of_cell? w _ h) (fun e => hne e.symm))).trans h
theorem rangeAtG {w w' : World} {b o : Nat} {row : Option Nat} {cs : List Value} (h : w.rangeAt b o cs) (hg : w.grownBy w' row) (hne : row ≠ some b) : w'.rangeAt b o cs := fun j v hv => keepCellG (h j v hv) hg hne
theorem take_map_snoc {α β : Type} (f : α → β) {l : List α} {k : Nat} {a : α} (h : l[k]? = some a) : (l.take (k + 1)).map f = (l.take k).map f ++ [f a] := by rw [List.take_add_one, h]; simp
set_option maxHeartbeats 8000000 in
theorem ranked_any (cl : FuncId) (caps : Array Value) (ad : Addr) (c top : Nat) (f : GrantD → Int) (rows : List GrantD) (w : World) (hr : RdR 18 w (some ad) (gcs rows)) (hl : rows.length ≤ 19) (htop : top ≤ 1000) (hb : ∀ g ∈ rows, 0 ≤ f g ∧ f g ≤ top)
    (hcf : ∀ args w, (callFunc cl args).run Tryz.prog w = .ok (.enter cl args) w)
    (hcl : ∀ (g : GrantD) (w' : World), g ∈ rows → Below w.heap.size w w' → Calls Tryz.prog cl (#[.agg (gc g).toArray] ++ caps) w' fun e w'' => e = .returned (.int .i64 (f g)) ∧ Below w'.heap.size w' w'') :
    Calls Tryz.prog 41 #[.agg #[.slice (some ad) rows.length c], .func (.func cl) #[] caps] w (RkOk w ((rkD f top rows (top + 1)).map GrantD.n) ((rkD f top rows (top + 1)).map f)) := by
  have HC := Lib.hid hcl
  have HH := Lib.hid hr
  have HB := Lib.hid hb
  obtain ⟨RK, hRK⟩ : ∃ RK, RK = rkD f top rows (top + 1) := ⟨_, rfl⟩
  rw [← hRK]
  have HRK := Lib.hid hRK
  clear hcl hr hb hRK
  have hW : Below w.heap.size w (((w.alloc (.cells #[.slice (some ad) rows.length c] 37)).alloc (.cells #[.func (.func cl) #[] caps] 78)).alloc (.cells #[] 76)) := Below_al (Below_al (Below_al (Below.refl _ _) _) _) _
  have hF0 : (((w.alloc (.cells #[.slice (some ad) rows.length c] 37)).alloc (.cells #[.func (.func cl) #[] caps] 78)).alloc (.cells #[] 76)).heap[w.heap.size + 1]? = some (.cells #[.func (.func cl) #[] caps] 78 (0, 0)) := heap_keepA (heap_hit _ _ _ (by simp)) _
  go_enter Tryz.func41, Tryz.ntmps41
  go_wp2_with (first | (at_builtin; refine wp_appGr rfl _ _ rfl (w.heap.size + 2) (.slice (some ⟨w.heap.size + 1 + 1, 0, none⟩) 0 0) [] rfl (OwnGr.none0 _ _ _ (by simp) (by omega)) ad rows.length c rows rfl (HH.out.below hW) rfl (by simp) (by omega) (by simp) ?_; intro v' w9 h9 g9 b9 at9; have hF := heap_keepG hF0 g9 (by simp [Value.ownBlock]); have hT9 := hW.trans (b9.mono (by omega)); obtain ⟨gq, cq, rfl⟩ : ∃ gq cq, v' = .slice (some ⟨gq, 0, none⟩) ([] ++ rows).length cq := by (obtain ⟨-, ⟨e0, -⟩ | ⟨gq, cap, cur, e0, -⟩⟩ := h9; (exfalso; rw [e0] at at9; simp [Value.ownBlock] at at9); exact ⟨gq, cap, e0⟩)) | fail)
  simp only [List.nil_append] at h9
  have hgq : w.heap.size + 2 ≤ gq := (h9.lt gq rfl).1
  have cF := cell_of hF 0
  have hsz9 := hT9.size
  have KS := sortG_any 81 #[.pointer (some ⟨w.heap.size + 1, 0, none⟩)] (w.heap.size + 2) gq cq f rows w9 h9 (by omega) cf_rk (fun x y w' hx hy hg => rk_cl cl caps f x y (w.heap.size + 1) w' (keepCellG cF hg (fun e => by injection e with e; omega)) (by have := HB.out x hx; omega) (by have := HB.out y hy; omega) hcf (fun z w'' hz hbz => HC.out z w'' (by rcases hz with rfl | rfl <;> assumption) ((hT9.grown hg hsz9 (fun k hk => by injection hk with hk; omega)).trans (hbz.mono (by have := hg.size; omega)))))
  have KS := Lib.hid KS
  clear g9 b9 at9 hF0 hW h9
  go_wp2_with fail
  refine KS.out.mono ?_
  rintro e w5 ⟨rfl, l, hds, hat, hlen, hG5, hg5⟩
  have hT5 := hT9.grown hg5 hsz9 (fun k hk => by injection hk with hk; omega)
  have hF5 := keepCellG cF hg5 (fun e => by injection e with e; omega)
  have hRKl : l = RK := by
    rw [HRK.out]
    exact rk_unique f HB.out hds hat
  have hmem : ∀ g ∈ l, g ∈ rows := fun g hg => (at_len f hat).1 hg
  have hsz5 := hT5.size
  have hlt5 : w.heap.size + 1 < w5.heap.size := World.block_lt_of_cell? w5 _ hF5
  have hl19 : l.length ≤ 19 := by omega
  clear hds hat hg5 cF hF hT9 hsz9 hgq
  subst hRKl
  have hlg : l.length = rows.length := hlen
  have H2 := Lib.hid (Two.none0 w5 w5.heap.size (Nat.le_refl _))
  have HL2 : Below w5.heap.size w5 ((w5.alloc (.cells #[] 3)).alloc (.cells #[] 3)) := Below_al (Below_al (Below.refl _ _) _) _
  have HG5 := Lib.hid hG5
  have HLEN := Lib.hid hlen
  clear hG5 hlen hlg
  go_wp2_with fail
  go_loopw [7, 8, 22] (fun uv vv i wr => ∃ (k : Nat) (u v : Value), k ≤ rows.length ∧ i = .int .i64 k ∧ uv = u ∧ vv = v ∧ Two wr w5.heap.size u v ((l.take k).map GrantD.n) ((l.take k).map f) ∧ Below w5.heap.size w5 wr) (fun _ _ i _ => rows.length - (intOf i).toNat)
  case atStart => exact ⟨0, _, _, Nat.zero_le _, rfl, rfl, rfl, H2.out, HL2⟩
  case round =>
    clear HL2
    obtain ⟨k, u, v, hk, rfl, huv, hvv, h2, hQ⟩ := hrel
    replace huv := huv.symm
    replace hvv := hvv.symm
    subst huv hvv
    by_cases hlt : k < rows.length
    · obtain ⟨gg, hgg⟩ := grant_at (show k < l.length by have := HLEN.out; omega)
      have hrow := (HG5.out.below hQ).row hgg
      have i1 : (k : Int) < (rows.length : Int) := by omega
      have d1 : decide (k < rows.length) = true := by simpa using hlt
      have HN1 := Lib.hid (take_map_snoc GrantD.n hgg)
      have HN2 := Lib.hid (take_map_snoc f hgg)
      have hxl : ((l.take k).map GrantD.n).length ≤ 19 := by rw [List.length_map, List.length_take]; omega
      have hyl : ((l.take k).map f).length ≤ 19 := by rw [List.length_map, List.length_take]; omega
      have hws := hQ.size
      have HNU1 := Lib.hid (show u.ownBlock ≠ some wr.heap.size from fun e => by have := (h2.fst.lt _ e).2; omega)
      have HNU2 := Lib.hid (show u.ownBlock ≠ some (w.heap.size + 1) from fun e => by have := (h2.fst.lt _ e).1; omega)
      have HNV1 := Lib.hid (show v.ownBlock ≠ some wr.heap.size from fun e => by have := (h2.snd.lt _ e).2; omega)
      have HNV2 := Lib.hid (show v.ownBlock ≠ some (w.heap.size + 1) from fun e => by have := (h2.snd.lt _ e).1; omega)
      have KC : ∀ w' : World, Below w5.heap.size w5 w' → Calls Tryz.prog cl (#[.agg (gc gg).toArray] ++ caps) w' fun e w'' => e = .returned (.int .i64 (f gg)) ∧ Below w'.heap.size w' w'' := fun w' hb => HC.out gg w' (hmem gg (List.mem_of_getElem? hgg)) (hT5.trans (hb.mono hsz5))
      obtain ⟨fz, hfz⟩ : ∃ fz, fz = f gg := ⟨_, rfl⟩
      rw [← hfz] at KC
      have KC := Lib.hid KC
      rw [← hfz] at HN2
      obtain ⟨xs, hxs⟩ : ∃ xs, xs = (l.take k).map GrantD.n := ⟨_, rfl⟩
      obtain ⟨ys, hys⟩ : ∃ ys, ys = (l.take k).map f := ⟨_, rfl⟩
      rw [← hxs] at h2 hxl HN1
      rw [← hys] at h2 hyl HN2
      have hFr := keep_cell hF5 hQ
      clear hgg hfz hxs hys
      go_wp2_with (first | (refine ldG rfl _ rfl gq _ rfl gg hrow ?_) | (refine stG rfl _ _ rfl wr.heap.size rfl gg rfl z18 (heap_hit _ _ _ rfl) rfl ?_; intro wn hn1 hn2 hn3 hn4; have hbn := hn3 _ _ (Nat.le_refl _) (Below_al (Below.refl _ _) _)) | fail)
      have hz0 := (gblk_cells hn1).1
      have hg0 := rangeAt_blk hn1
      have hD0 := keep_cell hFr hbn
      have hT6 := h2.below hbn
      have hL0 := Below_then hQ hbn
      clear hn1 hn2 hn3 hn4 hbn h2 hFr hrow hws
      refine wp_region_noPanic ?_
      refine wp_region_held_drew (S := (fun w' => w'.cell? ⟨wr.heap.size, 0, none⟩ = some (.int .i64 gg.n : Value) ∧ w'.cell? ⟨w.heap.size + 1, 0, none⟩ = some (.func (.func cl) #[] caps : Value) ∧ w'.rangeAt wr.heap.size 0 (gc gg) ∧ Below w5.heap.size w5 w')) (by kernel_rfl) ⟨hz0, hD0, hg0, hL0.drew⟩ (fun hHeld => ?_)
      have hT7 := hT6.below (Below.refl wn.heap.size wn).drew
      generalize wn.drew = wz at hT7 hHeld ⊢
      clear hT6 hz0 hD0 hg0 hL0
      refine wpAnyH_take (i := 0) (oi := _) (v := ?_) rfl (by kernel_rfl) (by kernel_rfl) (by kernel_rfl) (fun _ _ _ h => h) (Or.inl ⟨by rfl, ?_⟩) (by assumption) ?_
      rotate_left
      · intro w hSw; clear hSw; first | (go_simp; done) | (go_simp; with_reducible rfl)
      simp only [Act.put, List.getElem_toArray, List.getElem_cons_succ, List.getElem_cons_zero, List.setIfInBounds_toArray, List.set_cons_zero, List.set_cons_succ]
      refine wpAnyH_take (i := 1) (oi := _) (v := ?_) rfl (by kernel_rfl) (by kernel_rfl) (by kernel_rfl) (fun _ _ _ h => h) (Or.inl ⟨by rfl, ?_⟩) (by assumption) ?_
      rotate_left
      · intro w hSw; clear hSw; first | (go_simp; done) | (go_simp; with_reducible rfl)
      simp only [Act.put, List.getElem_toArray, List.getElem_cons_succ, List.getElem_cons_zero, List.setIfInBounds_toArray, List.set_cons_zero, List.set_cons_succ]
      refine wpAnyH_take (i := 2) (oi := _) (v := ?_) rfl (by kernel_rfl) (by kernel_rfl) (by kernel_rfl) (fun _ _ _ h => h) (Or.inl ⟨by rfl, ?_⟩) (by assumption) ?_
      rotate_left
      · intro w hSw; (try dsimp only at hSw); first | (go_simp; done) | (go_simp; with_reducible rfl)
      simp only [Act.put, List.getElem_toArray, List.getElem_cons_succ, List.getElem_cons_zero, List.setIfInBounds_toArray, List.set_cons_zero, List.set_cons_succ]
      refine wpAnyH_take (i := 5) (oi := _) (v := ?_) rfl (by kernel_rfl) (by kernel_rfl) (by kernel_rfl) (fun _ _ _ h => h) (Or.inl ⟨by rfl, ?_⟩) (by assumption) ?_
      rotate_left
      · intro w hSw; clear hSw; first | (go_simp; done) | (go_simp; with_reducible rfl)
      simp only [Act.put, List.getElem_toArray, List.getElem_cons_succ, List.getElem_cons_zero, List.setIfInBounds_toArray, List.set_cons_zero, List.set_cons_succ]
      refine wpAnyH_take (i := 6) (oi := _) (v := ?_) rfl (by kernel_rfl) (by kernel_rfl) (by kernel_rfl) (fun _ _ _ h => h) (Or.inl ⟨by rfl, ?_⟩) (by assumption) ?_
      rotate_left
      · intro w hSw; (try dsimp only at hSw); first | (go_simp; done) | (go_simp; with_reducible rfl)
      simp only [Act.put, List.getElem_toArray, List.getElem_cons_succ, List.getElem_cons_zero, List.setIfInBounds_toArray, List.set_cons_zero, List.set_cons_succ]
      refine wpAnyH_take (i := 7) (oi := _) (v := _) rfl ?g1_3 ?g2_3 ?g3_3 (fun _ _ _ h => h) (yieldsIf_load_mid ?g4_3 _ _ rfl wr.heap.size ?oo_3 ?g5_3 (gc gg) _ ?g6_3 Tryz.underlying76 rfl (info_gc gg)) ?g7_3 ?_
      case g5_3 => rfl
      case g1_3 => kernel_rfl
      case g2_3 => kernel_rfl
      case g3_3 => kernel_rfl
      case g6_3 => exact (fun _ h => h.2.2.1)
      case g4_3 => kernel_rfl
      case g7_3 => assumption
      simp only [Act.put, List.getElem_toArray, List.getElem_cons_succ, List.getElem_cons_zero, List.setIfInBounds_toArray, List.set_cons_zero, List.set_cons_succ]
      refine wpAnyH_ready (rs := [3]) (by kernel_rfl) (by simp) ?_
      refine AllReadyH.cons (o := _) rfl (fun K hK => ?_) AllReadyH.nil
      go_simp
      refine hK.out _ _ ⟨keep_cell hHeld.1 (Below_al (Below.refl _ _) _), keep_cell hHeld.2.1 (Below_al (Below.refl _ _) _), rangeAt_below hHeld.2.2.1 (Below_al (Below.refl _ _) _), hHeld.2.2.2.alloc hHeld.2.2.2.size _⟩ (fun hHeld => ?_)
      clear hK K
      try simp only [Act.put, List.getElem_toArray, List.getElem_cons_succ, List.getElem_cons_zero, List.setIfInBounds_toArray, List.set_cons_zero, List.set_cons_succ]
      refine wpAnyH_ready (rs := [4]) (by kernel_rfl) (by simp) ?_
      refine AllReadyH.cons (o := _) rfl (fun K hK => ?_) AllReadyH.nil
      refine step_appAt rfl (.tmp 26) (.tmp 29) rfl w5.heap.size u xs rfl (hT7.fst.alloc _) _ gg.n rfl (cell_of (heap_hit _ _ _ rfl) 0) (by omega) hHeld.2.2.2.size ?_
      intro u9 w9 hO9 hG9 hL9 hA9
      have hT9 := (hT7.below (Below_al (Below.refl _ _) _)).fst' hO9 hG9 hA9
      refine hK.out _ _ ⟨keepCellG hHeld.1 hG9 HNU1.out, keepCellG hHeld.2.1 hG9 HNU2.out, rangeAtG hHeld.2.2.1 hG9 HNU1.out, hHeld.2.2.2.trans hL9⟩ (fun hHeld => ?_)
      clear hK K hO9 hG9 hL9 hA9
      try simp only [Act.put, List.getElem_toArray, List.getElem_cons_succ, List.getElem_cons_zero, List.setIfInBounds_toArray, List.set_cons_zero, List.set_cons_succ]
      clear hT7
      refine wpAnyH_ready (rs := [8]) (by kernel_rfl) (by simp) ?_
      refine AllReadyH.cons (o := _) rfl (fun K hK => ?_) AllReadyH.nil
      go_simp
      refine (KC.out _ hHeld.2.2.2).mono ?_
      rintro e y5 ⟨rfl, hb5⟩
      go_wp2_with fail
      refine hK.out _ _ ⟨keep_cell hHeld.1 hb5, keep_cell hHeld.2.1 hb5, rangeAt_below hHeld.2.2.1 hb5, hHeld.2.2.2.trans (hb5.mono hHeld.2.2.2.size)⟩ (fun hHeld => ?_)
      clear hK K
      try simp only [Act.put, List.getElem_toArray, List.getElem_cons_succ, List.getElem_cons_zero, List.setIfInBounds_toArray, List.set_cons_zero, List.set_cons_succ]
      replace hT9 := hT9.below hb5
      clear hb5
      refine wpAnyH_ready (rs := [9]) (by kernel_rfl) (by simp) ?_
      refine AllReadyH.cons (o := _) rfl (fun K hK => ?_) AllReadyH.nil
      go_simp
      refine hK.out _ _ ⟨keep_cell hHeld.1 (Below_al (Below.refl _ _) _), keep_cell hHeld.2.1 (Below_al (Below.refl _ _) _), rangeAt_below hHeld.2.2.1 (Below_al (Below.refl _ _) _), hHeld.2.2.2.alloc hHeld.2.2.2.size _⟩ (fun hHeld => ?_)
      clear hK K
      try simp only [Act.put, List.getElem_toArray, List.getElem_cons_succ, List.getElem_cons_zero, List.setIfInBounds_toArray, List.set_cons_zero, List.set_cons_succ]
      refine wpAnyH_ready (rs := [10]) (by kernel_rfl) (by simp) ?_
      refine AllReadyH.cons (o := _) rfl (fun K hK => ?_) AllReadyH.nil
      refine step_appAt rfl (.tmp 31) (.tmp 35) rfl w5.heap.size v ys rfl (hT9.snd.alloc _) _ fz rfl (cell_of (heap_hit _ _ _ rfl) 0) (by omega) hHeld.2.2.2.size ?_
      intro v9 w6 hO9 hG9 hL9 hA9
      have hT6 := (hT9.below (Below_al (Below.refl _ _) _)).snd' hO9 hG9 hA9
      refine hK.out _ _ ⟨keepCellG hHeld.1 hG9 HNV1.out, keepCellG hHeld.2.1 hG9 HNV2.out, rangeAtG hHeld.2.2.1 hG9 HNV1.out, hHeld.2.2.2.trans hL9⟩ (fun hHeld => ?_)
      clear hK K hO9 hG9 hL9 hA9
      try simp only [Act.put, List.getElem_toArray, List.getElem_cons_succ, List.getElem_cons_zero, List.setIfInBounds_toArray, List.set_cons_zero, List.set_cons_succ]
      clear hT9
      refine wpAnyH_take (i := 11) (oi := _) (v := ?_) rfl (by kernel_rfl) (by kernel_rfl) (by kernel_rfl) (fun _ _ _ h => h) (Or.inl ⟨by rfl, ?_⟩) (by assumption) ?_
      rotate_left
      · intro w hSw; clear hSw; first | (go_simp; done) | (go_simp; with_reducible rfl)
      simp only [Act.put, List.getElem_toArray, List.getElem_cons_succ, List.getElem_cons_zero, List.setIfInBounds_toArray, List.set_cons_zero, List.set_cons_succ]
      refine wpAnyH_take (i := 12) (oi := _) (v := ?_) rfl (by kernel_rfl) (by kernel_rfl) (by kernel_rfl) (fun _ _ _ h => h) (Or.inl ⟨by rfl, ?_⟩) (by assumption) ?_
      rotate_left
      · intro w hSw; clear hSw; first | (go_simp; done) | (go_simp; with_reducible rfl)
      simp only [Act.put, List.getElem_toArray, List.getElem_cons_succ, List.getElem_cons_zero, List.setIfInBounds_toArray, List.set_cons_zero, List.set_cons_succ]
      have hb6 := hHeld.2.2.2
      refine wpAnyH_done (by kernel_rfl) ?_ _
      refine NoPanic.normal ?_
      clear hHeld
      go_wp2
      go_roundw
      case rel => exact ⟨k + 1, _, _, by omega, by go_num, rfl, rfl, by rw [HN1.out, HN2.out]; exact hT6, hb6⟩
      case measure => simp [intOf]; omega
    · obtain rfl : k = rows.length := by omega
      have d1 : decide (rows.length < rows.length) = false := by simp
      rw [List.take_of_length_le (by have := HLEN.out; omega)] at h2
      have h3 := h2.base (B' := w.heap.size) hsz5
      have hTT := hT5.trans (hQ.mono hsz5)
      clear h2
      go_wp2
      exact bodyPost_ret (by simp [results, Tryz.results41, go_sem]) rfl ⟨_, _, rfl, h3, hTT⟩
end Go.Proofs.YtmjgogklalploaaGreatDoor
/-! ### RkS -/
namespace Go.Proofs.YtmjgogklalploaaGreatDoor
open Go.ChangeShapes Go.WideShapes Go.ChangeAt Go.RowKit
set_option linter.unusedVariables false
set_option linter.unusedSimpArgs false
/-- How many of a list's features a grant has. -/
def cntG (zs : List ByteArray) (g : GrantD) : Int := cnt g.a zs
theorem cntG_bd (zs : List ByteArray) (g : GrantD) : 0 ≤ cntG zs g ∧ cntG zs g ≤ zs.length := by
  unfold cntG cnt
  have := List.length_filter_le (hasB (featL g.a)) zs
  omega
theorem at_take_yes {f : GrantD → Int} {v : Int} {rows : List GrantD} {i : Nat} {g : GrantD} (h : rows[i]? = some g) (hv : f g = v) : at_ f v (rows.take (i + 1)) = at_ f v (rows.take i) ++ [g] := by
  unfold at_
  rw [List.take_add_one, h, Option.toList_some, List.filter_append, List.filter_cons_of_pos (by simpa using hv), List.filter_nil]
theorem at_take_no {f : GrantD → Int} {v : Int} {rows : List GrantD} {i : Nat} {g : GrantD} (h : rows[i]? = some g) (hv : f g ≠ v) : at_ f v (rows.take (i + 1)) = at_ f v (rows.take i) := by
  unfold at_
  rw [List.take_add_one, h, Option.toList_some, List.filter_append, List.filter_cons_of_neg (by simpa using hv), List.filter_nil, List.append_nil]
theorem at_le {f : GrantD → Int} {v : Int} (rows : List GrantD) : (at_ f v rows).length ≤ rows.length := List.length_filter_le _ _
theorem rkD_le (f : GrantD → Int) (top : Nat) (rows : List GrantD) : ∀ k, (rkD f top rows k).length ≤ k * rows.length
  | 0 => by simp [rkD]
  | k + 1 => by
    have h1 := rkD_le f top rows k
    have h2 := at_le (f := f) (v := (top : Int) - k) rows
    rw [rkD, List.length_append, Nat.add_mul, Nat.one_mul]
    omega
set_option maxHeartbeats 8000000 in
set_option maxRecDepth 100000 in
theorem l17Rank_any (ad : Addr) (c : Nat) (rows : List GrantD) (A2 : Option Addr) (c2 : Nat) (zs : List ByteArray) (w : World) (hr : RdR 18 w (some ad) (gcs rows)) (hl : rows.length ≤ 19) (hz : zs.length ≤ 1000) (h2 : RdS w A2 zs) (hg : ∀ g ∈ rows, armsOk g.a = true) :
    Calls Tryz.prog 31 #[.agg #[.slice (some ad) rows.length c], .slice A2 zs.length c2] w (RkOk w ((rkD (cntG zs) zs.length rows (zs.length + 1)).map GrantD.n) ((rkD (cntG zs) zs.length rows (zs.length + 1)).map (cntG zs))) := by
  have HG := Lib.hid hg
  have HH := Lib.hid hr
  have H2 := Lib.hid h2
  have hR0 : (((w.alloc (.cells #[.slice (some ad) rows.length c] 37)).alloc (.cells #[] 3)).alloc (.cells #[] 3)).heap[w.heap.size]? = some (.cells #[.slice (some ad) rows.length c] 37 (0, 0)) := heap_keepA (heap_keepA (heap_hit _ _ _ rfl) _) _
  have hW : Below w.heap.size w (((w.alloc (.cells #[.slice (some ad) rows.length c] 37)).alloc (.cells #[] 3)).alloc (.cells #[] 3)) := Below_al (Below_al (Below_al (Below.refl _ _) _) _) _
  have hT0 : Two (((w.alloc (.cells #[.slice (some ad) rows.length c] 37)).alloc (.cells #[] 3)).alloc (.cells #[] 3)) (w.heap.size + 1) (.slice (some ⟨w.heap.size + 1, 0, none⟩) 0 0) (.slice (some ⟨w.heap.size + 1 + 1, 0, none⟩) 0 0) [] [] := by
    have := Two.none0 (w.alloc (.cells #[.slice (some ad) rows.length c] 37)) (w.heap.size + 1) (by simp)
    simpa using this
  obtain ⟨f, hf⟩ : ∃ f, f = cntG zs := ⟨_, rfl⟩
  rw [← hf]
  have HF := Lib.hid hf
  have HBD := Lib.hid (fun g => (show 0 ≤ f g ∧ f g ≤ zs.length by rw [hf]; exact cntG_bd zs g))
  obtain ⟨top, htop⟩ : ∃ top, top = zs.length := ⟨_, rfl⟩
  rw [← htop] at HBD hz ⊢
  have HTOP := Lib.hid htop
  clear hg hr h2 hf htop
  go_enter Tryz.func31, Tryz.ntmps31
  go_wp2_with fail
  go_loopw [6, 7, 8] (fun uv vv nv wr => ∃ (j : Nat) (u v : Value), j ≤ top + 1 ∧ nv = .int .i64 ((top : Int) - j) ∧ uv = u ∧ vv = v ∧ Two wr (w.heap.size + 1) u v ((rkD f top rows j).map GrantD.n) ((rkD f top rows j).map f) ∧ wr.heap[w.heap.size]? = some (.cells #[.slice (some ad) rows.length c] 37 (0, 0)) ∧ Below w.heap.size w wr) (fun _ _ nv _ => (intOf nv + 1).toNat)
  case atStart => exact ⟨0, _, _, Nat.zero_le _, by rw [HTOP.out]; simp, rfl, rfl, by simpa [rkD] using hT0, hR0, hW⟩
  case round =>
    clear hT0 hR0 hW
    obtain ⟨j, u, v, hj, rfl, huv, hvv, hT, hR, hB⟩ := hrel
    replace huv := huv.symm
    replace hvv := hvv.symm
    subst huv hvv
    by_cases hlt : j ≤ top
    · have i1 : (0 : Int) ≤ (top : Int) - j := by omega
      have hst : rkD f top rows (j + 1) = rkD f top rows j ++ at_ f ((top : Int) - j) rows := rfl
      have hle := rkD_le f top rows j
      have hle2 : (rkD f top rows j).length ≤ 20000 := Nat.le_trans hle (Nat.le_trans (Nat.mul_le_mul (show j ≤ 1000 by omega) hl) (by omega))
      obtain ⟨L0, hL0⟩ : ∃ L0, L0 = rkD f top rows j := ⟨_, rfl⟩
      rw [← hL0] at hT hst hle2
      have HST := Lib.hid hst
      clear hst hL0 hle
      obtain ⟨nv, hnv⟩ : ∃ nv : Int, nv = (top : Int) - j := ⟨_, rfl⟩
      rw [← hnv] at i1 HST ⊢
      have hnvb : nv ≤ 1000 := by omega
      have HNV := Lib.hid hnv
      clear hnv
      go_wp2_with fail
      go_loopw [6, 7, 9] (fun uv vv iv wr => ∃ (i : Nat) (u v : Value), i ≤ rows.length ∧ iv = .int .i64 i ∧ uv = u ∧ vv = v ∧ Two wr (w.heap.size + 1) u v ((L0 ++ at_ f nv (rows.take i)).map GrantD.n) ((L0 ++ at_ f nv (rows.take i)).map f) ∧ wr.heap[w.heap.size]? = some (.cells #[.slice (some ad) rows.length c] 37 (0, 0)) ∧ Below w.heap.size w wr) (fun _ _ iv _ => rows.length - (intOf iv).toNat)
      case atStart => exact ⟨0, _, _, Nat.zero_le _, rfl, rfl, rfl, by simpa [at_] using hT, hR, hB⟩
      case round =>
        clear hT hR hB
        obtain ⟨i, u, v, hi, rfl, huv, hvv, hT, hR, hB⟩ := hrel
        replace huv := huv.symm
        replace hvv := hvv.symm
        subst huv hvv
        have cR := cell_of hR 0
        by_cases hli : i < rows.length
        · obtain ⟨g, hg⟩ := grant_at hli
          obtain ⟨b, off, e0, hgr, -⟩ := (HH.out.below hB).grants hg
          obtain rfl := Option.some.inj e0
          obtain ⟨cn, -, -, hga⟩ := gc_cells hgr
          have i2 : (i : Int) < (rows.length : Int) := by omega
          have d2 : decide (i < rows.length) = true := by simpa using hli
          have KC := fun (w' : World) (hb : Below w.heap.size w w') => l17Count_any g.a (HG.out g (List.mem_of_getElem? hg)) A2 c2 zs w' (H2.out.below hb) (by have := HTOP.out; omega)
          have hfg : f g = cnt g.a zs := by rw [HF.out]; rfl
          rw [← hfg, ← HTOP.out] at KC
          have KC := Lib.hid KC
          have hal := at_le (f := f) (v := nv) (rows.take i)
          rw [List.length_take] at hal
          have hlen1 : ((L0 ++ at_ f nv (rows.take i)).map GrantD.n).length ≤ 30000 := by rw [List.length_map, List.length_append]; omega
          have hlen2 : ((L0 ++ at_ f nv (rows.take i)).map f).length ≤ 30000 := by rw [List.length_map, List.length_append]; omega
          have hws := hB.size
          have hAl := heap_lt hR
          by_cases he : f g = nv
          · have hyes := at_take_yes hg he
            have HY1 : Hid ((L0 ++ at_ f nv (rows.take (i + 1))).map GrantD.n = (L0 ++ at_ f nv (rows.take i)).map GrantD.n ++ [g.n]) := Lib.hid (by rw [hyes]; simp)
            have HY2 : Hid ((L0 ++ at_ f nv (rows.take (i + 1))).map f = (L0 ++ at_ f nv (rows.take i)).map f ++ [nv]) := Lib.hid (by rw [hyes]; simp [he])
            have hq : (f g == nv) = true := by simpa using he
            obtain ⟨fg, hfgv⟩ : ∃ fg, fg = f g := ⟨_, rfl⟩
            rw [← hfgv] at KC hq
            obtain ⟨xs, hxs⟩ : ∃ xs, xs = (L0 ++ at_ f nv (rows.take i)).map GrantD.n := ⟨_, rfl⟩
            obtain ⟨ys, hys⟩ : ∃ ys, ys = (L0 ++ at_ f nv (rows.take i)).map f := ⟨_, rfl⟩
            rw [← hxs] at hT hlen1 HY1
            rw [← hys] at hT hlen2 HY2
            clear hyes he hfg hal hg hxs hys hfgv e0
            go_wp2_with (first | (refine ldA rfl _ rfl b _ rfl g.a hga ?_) | fail)
            refine (KC.out _ hB).mono ?_
            rintro e w9 ⟨rfl, sb⟩
            have hT := hT.below sb
            have hR := heap_keepB hR sb
            have hB := Below_then hB sb
            have cn := keep_cell cn sb
            have cR := cell_of hR 0
            have hws := hB.size
            have hAl := heap_lt hR
            have hnu := ownBlock_ne (b := w.heap.size) hT.fst (.inl (by omega))
            have hnv2 := ownBlock_ne (b := w.heap.size) hT.snd (.inl (by omega))
            clear sb
            go_wp2_with (first | (at_builtin; refine wp_appAt rfl (.tmp 35) (.tmp 42) rfl (w.heap.size + 1) u xs rfl (hT.fst.alloc _) _ _ rfl (cell_of (heap_hit _ _ _ rfl) 0) ?c1 ?c2 ?_; rotate_left 2; intro u8 w8 hO8 hG8 hL8 hA8; have hT8 := (hT.below (Below_al (Below.refl _ _) _)).fst' hO8 hG8 hA8; have hR8 := heap_keepG (heap_keepA hR _) hG8 hnu; have hB8 := (Below_al hB _).trans (hL8.mono (by omega)); have hs8 := hB8.size; clear hO8 hG8 hL8 hA8) | (at_builtin; refine wp_appAt rfl (.tmp 44) (.tmp 46) rfl (w.heap.size + 1) v ys rfl (hT8.snd.alloc _) _ _ rfl (cell_of (heap_hit _ _ _ rfl) 0) ?c3 ?c4 ?_; rotate_left 2; intro v7 w7 hO7 hG7 hL7 hA7; have hT7 := (hT8.below (Below_al (Below.refl _ _) _)).snd' hO7 hG7 hA7; have hR7 := heap_keepG (heap_keepA hR8 _) hG7 hnv2; have hB7 := (Below_al hB8 _).trans (hL7.mono (by omega)); clear hO7 hG7 hL7 hA7) | fail)
            all_goals try (case c1 => omega)
            all_goals try (case c2 => (rw [World.size_alloc]; omega))
            all_goals try (case c3 => omega)
            all_goals try (case c4 => (have h1 := heap_lt hR8; rw [World.size_alloc]; omega))
            go_wp2
            go_roundw
            case rel => exact ⟨i + 1, _, _, by omega, by go_num, rfl, rfl, by rw [HY1.out, HY2.out]; exact hT7, hR7, hB7⟩
            case measure => simp [intOf]; omega
          · have hno := at_take_no hg he
            have HN := Lib.hid hno
            have hq : (f g == nv) = false := by simpa using he
            obtain ⟨fg, hfgv⟩ : ∃ fg, fg = f g := ⟨_, rfl⟩
            rw [← hfgv] at KC hq
            clear hno he hfg hal hg hfgv hlen1 hlen2 e0
            go_wp2_with (first | (refine ldA rfl _ rfl b _ rfl g.a hga ?_) | fail)
            refine (KC.out _ hB).mono ?_
            rintro e w9 ⟨rfl, sb⟩
            have hT := hT.below sb
            have hR := heap_keepB hR sb
            have hB := Below_then hB sb
            clear sb cR
            go_wp2
            go_roundw
            case rel => exact ⟨i + 1, _, _, by omega, by go_num, rfl, rfl, by rw [HN.out]; exact hT, hR, hB⟩
            case measure => simp [intOf]; omega
        · obtain rfl : i = rows.length := by omega
          have d2 : decide (rows.length < rows.length) = false := by simp
          rw [List.take_length] at hT
          have hnw : IntKind.i64.wrap (nv - 1) = nv - 1 := by rw [IntKind.wrap_i64]; omega
          have HNW := Lib.hid (show nv - 1 = (top : Int) - ((j + 1 : Nat) : Int) by have := HNV.out; omega)
          go_wp2
          go_roundw
          case rel => exact ⟨j + 1, _, _, by omega, by rw [HNW.out], rfl, rfl, by rw [HST.out]; exact hT, hR, hB⟩
          case measure => simp [intOf]; omega
    · obtain rfl : j = top + 1 := by omega
      have i1 : ¬ (0 : Int) ≤ (top : Int) - ((top + 1 : Nat) : Int) := by omega
      have hT := hT.base (B' := w.heap.size) (by omega)
      go_wp2
      exact bodyPost_ret (by simp [results, Tryz.results31, go_sem]) rfl ⟨_, _, rfl, hT, hB⟩
end Go.Proofs.YtmjgogklalploaaGreatDoor
/-! ### Sa -/
namespace Go.Proofs.YtmjgogklalploaaGreatDoor
open Go.ChangeShapes Go.WideShapes Go.ChangeAt Go.RowKit
set_option linter.unusedVariables false
set_option linter.unusedSimpArgs false
/-- Three results: two rows of numbers and whether all is well. -/
def SaOk (w : World) (xs ys : List Int) (ok : Bool) (e : Ending) (w' : World) : Prop := ∃ u v, e = .returned (.tuple #[u, v, .bool ok]) ∧ OwnI w' w.heap.size 3 u xs ∧ OwnI w' w.heap.size 3 v ys ∧ (u.ownBlock = none ∨ u.ownBlock ≠ v.ownBlock) ∧ Below w.heap.size w w'
theorem OwnI.take {w : World} {B c : Nat} {T : TypeId} {A : Option Addr} {zs : List Int} (h : OwnI w B T (.slice A zs.length c) zs) (k : Nat) (hk : k ≤ zs.length) : OwnI w B T (.slice A k c) (zs.take k) := by
  have hlt : (zs.take k).length = k := by rw [List.length_take]; omega
  obtain ⟨hl, ⟨e, h0⟩ | ⟨g, cap, cur, e, hB, hh, h1, h2, h3, h4⟩⟩ := h
  · injection e with e1 e2 e3
    subst e1 e3
    have hk0 : k = 0 := by omega
    subst hk0
    exact ⟨by simp [iv], .inl ⟨rfl, by simp⟩⟩
  · injection e with e1 e2 e3
    subst e1 e3
    refine ⟨by rw [iv_len, Nat.mul_one], .inr ⟨g, c, cur, by rw [hlt], hB, hh, by omega, h2, h3, ?_⟩⟩
    rw [hlt]
    have : iv (zs.take k) = (iv zs).take k := by simp [iv, List.map_take]
    rw [this, ← h4, List.take_take]
    congr 1
    omega
theorem OwnI.cap {w : World} {B c : Nat} {T : TypeId} {A : Option Addr} {zs : List Int} (h : OwnI w B T (.slice A zs.length c) zs) : zs.length ≤ c ∧ c ≤ maxLen := by
  obtain ⟨hl, ⟨e, h0⟩ | ⟨g, cap, cur, e, hB, hh, h1, h2, h3, h4⟩⟩ := h
  · injection e with e1 e2 e3
    subst e3
    exact ⟨by omega, Nat.zero_le _⟩
  · injection e with e1 e2 e3
    subst e3
    exact ⟨h1, h2⟩
theorem OwnI.rdv {w : World} {B c n : Nat} {T : TypeId} {A : Option Addr} {zs : List Int} (h : OwnI w B T (.slice A n c) zs) : RdI w A zs := by
  obtain ⟨A', c', e, hr⟩ := h.form
  injection e with e
  subst e
  exact hr
theorem own_len (A : Option Addr) (n m c d : Nat) : (Value.slice A n c).ownBlock = (Value.slice A m d).ownBlock := by cases A <;> rfl
theorem sep_len {A A' : Option Addr} {n n' c c' : Nat} (h : (Value.slice A n c).ownBlock = none ∨ (Value.slice A n c).ownBlock ≠ (Value.slice A' n' c').ownBlock) (k k' : Nat) : (Value.slice A k c).ownBlock = none ∨ (Value.slice A k c).ownBlock ≠ (Value.slice A' k' c').ownBlock := by
  rw [own_len A k n c c, own_len A' k' n' c' c']
  exact h
/-- How many counts stand ahead that are more than nought. -/
def headN (ys : List Int) : Nat := (ys.takeWhile fun y => decide (0 < y)).length
theorem headN_eq : ∀ (ys : List Int) (k : Nat), k ≤ ys.length → (∀ (j : Nat) y, j < k → ys[j]? = some y → 0 < y) → (∀ y, ys[k]? = some y → ¬ 0 < y) → headN ys = k
  | [], k, hk, _, _ => by
    have : k = 0 := by simpa using hk
    subst this
    rfl
  | a :: t, 0, _, _, h => by
    have := h a (by simp)
    have h2 : decide (0 < a) = false := by simpa using this
    unfold headN
    rw [List.takeWhile_cons, h2]
    rfl
  | a :: t, k + 1, hk, h1, h2 => by
    have ha := h1 0 a (by omega) (by simp)
    have ih := headN_eq t k (by simpa using hk) (fun j y hj hy => h1 (j + 1) y (by omega) (by simpa using hy)) (fun y hy => h2 y (by simpa using hy))
    unfold headN at ih ⊢
    rw [List.takeWhile_cons, if_pos (by simpa using ha), List.length_cons, ih]
def rkN (rows : List GrantD) (zs : List ByteArray) : List Int := (rkD (cntG zs) zs.length rows (zs.length + 1)).map GrantD.n
def rkC (rows : List GrantD) (zs : List ByteArray) : List Int := (rkD (cntG zs) zs.length rows (zs.length + 1)).map (cntG zs)
theorem rk_len (rows : List GrantD) (zs : List ByteArray) : (rkN rows zs).length = (rkC rows zs).length := by simp [rkN, rkC]
theorem rkN_le (rows : List GrantD) (zs : List ByteArray) (hr : rows.length ≤ 19) (hz : zs.length ≤ 1000) : (rkN rows zs).length ≤ 20000 := by
  unfold rkN
  rw [List.length_map]
  exact Nat.le_trans (rkD_le _ _ _ _) (Nat.le_trans (Nat.mul_le_mul (show zs.length + 1 ≤ 1001 by omega) hr) (by omega))
def saOk (rows : List GrantD) (zs : List ByteArray) : Bool := regOk rows && lsOk zs
def saN (rows : List GrantD) (zs : List ByteArray) : List Int := bif saOk rows zs then (rkN rows zs).take (headN (rkC rows zs)) else []
def saC (rows : List GrantD) (zs : List ByteArray) : List Int := bif saOk rows zs then (rkC rows zs).take (headN (rkC rows zs)) else []
theorem regOk_few' {rows : List GrantD} (h : regOk rows = true) : rows.length ≤ 12 := by
  simp [regOk] at h
  omega
theorem saN_le (rows : List GrantD) (zs : List ByteArray) : (saN rows zs).length ≤ 20000 := by
  unfold saN
  cases h : saOk rows zs
  · simp
  · unfold saOk at h
    rw [Bool.and_eq_true] at h
    have h1 := rkN_le rows zs (by have := regOk_few' h.1; omega) (by have := lsOk_small h.2; omega)
    rw [cond_true, List.length_take]
    omega
theorem saC_le (rows : List GrantD) (zs : List ByteArray) : (saC rows zs).length ≤ 20000 := by
  unfold saC
  cases h : saOk rows zs
  · simp
  · unfold saOk at h
    rw [Bool.and_eq_true] at h
    have h1 := rkN_le rows zs (by have := regOk_few' h.1; omega) (by have := lsOk_small h.2; omega)
    rw [rk_len] at h1
    rw [cond_true, List.length_take]
    omega
theorem cf_sa (args : Array Value) (w : World) : (callFunc 48 args).run Tryz.prog w = .ok (.enter 48 args) w := by kernel_rfl
set_option maxHeartbeats 2000000 in
theorem sa_cl (g : GrantD) (A2 : Option Addr) (c2 B : Nat) (zs : List ByteArray) (w : World) (gg : armsOk g.a = true) (hB : w.cell? ⟨B, 0, none⟩ = some (.slice A2 zs.length c2)) (h2 : RdS w A2 zs) (hx : zs.length ≤ 1048576) :
    Calls Tryz.prog 48 #[.agg (gc g).toArray, .pointer (some ⟨B, 0, none⟩)] w fun e w' => e = .returned (.int .i64 (cntG zs g)) ∧ Below w.heap.size w w' := by
  have KC := Lib.hid (fun w' (hb : Below w.heap.size w w') => shared_any g.a gg A2 c2 zs w' (h2.below hb) hx)
  have hA := (gblk_cells (heap_hit w (.cells (gc g).toArray 76) _ rfl)).2.2.2
  have cB := keep_cell hB (Below_al (Below.refl w.heap.size w) (.cells (gc g).toArray 76))
  have hW : Below w.heap.size w (w.alloc (.cells (gc g).toArray 76)) := Below_al (Below.refl _ _) _
  unfold cntG
  generalize cnt g.a zs = n at KC ⊢
  clear gg
  go_enter Tryz.func48, Tryz.ntmps48
  go_wp2_with (first | (refine ldA rfl _ rfl _ _ rfl g.a hA ?_) | fail)
  refine (KC.out _ hW).mono ?_
  rintro e w1 ⟨rfl, hb1⟩
  go_wp2
  go_ret
  exact ⟨rfl, Below_then hW hb1⟩
set_option maxHeartbeats 8000000 in
set_option maxRecDepth 100000 in
theorem implSearch_any (ad : Addr) (c : Nat) (rows : List GrantD) (A2 : Option Addr) (c2 : Nat) (zs : List ByteArray) (w : World) (hr : RdR 18 w (some ad) (gcs rows)) (hl : rows.length ≤ 1048576) (hs : ∀ g ∈ rows, g.s.size ≤ maxLen) (h2 : RdS w A2 zs) (hx : zs.length ≤ 1048576) (hm : ∀ s ∈ zs, s.size ≤ maxLen) (hcap : rows.length ≤ c) (hcm : c ≤ maxLen) :
    Calls Tryz.prog 19 #[.agg #[.slice (some ad) rows.length c], .slice A2 zs.length c2] w (SaOk w (saN rows zs) (saC rows zs) (saOk rows zs)) := by
  have KV := Lib.hid (fun (w' : World) (hb : Below w.heap.size w w') => IsValidRegister_any (some ad) c rows w' (hr.below hb) hl hs hcap hcm)
  have KL := Lib.hid (fun (w' : World) (hb : Below w.heap.size w w') => areFeatures_any A2 c2 zs w' (h2.below hb) hx hm)
  have HH := Lib.hid hr
  have H2 := Lib.hid h2
  have hR0 : ((w.alloc (.cells #[.slice (some ad) rows.length c] 37)).alloc (.cells #[.slice A2 zs.length c2] 49)).heap[w.heap.size]? = some (.cells #[.slice (some ad) rows.length c] 37 (0, 0)) := heap_keepA (heap_hit _ _ _ rfl) _
  have hF0 : ((w.alloc (.cells #[.slice (some ad) rows.length c] 37)).alloc (.cells #[.slice A2 zs.length c2] 49)).heap[w.heap.size + 1]? = some (.cells #[.slice A2 zs.length c2] 49 (0, 0)) := heap_hit _ _ _ (by simp)
  have cF := cell_of hF0 0
  have hT0 : Below w.heap.size w ((w.alloc (.cells #[.slice (some ad) rows.length c] 37)).alloc (.cells #[.slice A2 zs.length c2] 49)) := Below_al (Below_al (Below.refl _ _) _) _
  have cR := cell_of hR0 0
  clear hs hm hr h2
  cases q : regOk rows
  · have e0 : saOk rows zs = false := by unfold saOk; rw [q]; rfl
    have e1 : saN rows zs = [] := by unfold saN; rw [e0]; rfl
    have e2 : saC rows zs = [] := by unfold saC; rw [e0]; rfl
    rw [e0, e1, e2]
    rw [q] at KV
    clear q KL e0 e1 e2
    go_enter Tryz.func19, Tryz.ntmps19
    go_wp2_with fail
    refine (KV.out _ hT0).mono ?_
    rintro e w1 ⟨rfl, hb1⟩
    replace hT0 := Below_then hT0 hb1
    replace hR0 := heap_keepB hR0 hb1
    replace hF0 := heap_keepB hF0 hb1
    clear hb1
    replace cR := cell_of hR0 0
    replace cF := cell_of hF0 0
    clear cR hR0
    go_wp2
    exact bodyPost_ret (by simp [results, Tryz.results19, go_sem]) rfl ⟨_, _, rfl, OwnI.nil _ _ _, OwnI.nil _ _ _, .inl rfl, hT0⟩
  · rw [q] at KV
    cases q2 : lsOk zs
    · have e0 : saOk rows zs = false := by unfold saOk; rw [q2]; simp
      have e1 : saN rows zs = [] := by unfold saN; rw [e0]; rfl
      have e2 : saC rows zs = [] := by unfold saC; rw [e0]; rfl
      rw [e0, e1, e2]
      rw [q2] at KL
      clear q q2 e0 e1 e2
      go_enter Tryz.func19, Tryz.ntmps19
      go_wp2_with fail
      refine (KV.out _ hT0).mono ?_
      rintro e w1 ⟨rfl, hb1⟩
      replace hT0 := Below_then hT0 hb1
      replace hR0 := heap_keepB hR0 hb1
      replace hF0 := heap_keepB hF0 hb1
      clear hb1
      replace cR := cell_of hR0 0
      replace cF := cell_of hF0 0
      go_wp2_with fail
      refine (KL.out _ hT0).mono ?_
      rintro e w2 ⟨rfl, hb1⟩
      replace hT0 := Below_then hT0 hb1
      replace hR0 := heap_keepB hR0 hb1
      replace hF0 := heap_keepB hF0 hb1
      clear hb1
      replace cR := cell_of hR0 0
      replace cF := cell_of hF0 0
      clear cR hR0
      go_wp2
      exact bodyPost_ret (by simp [results, Tryz.results19, go_sem]) rfl ⟨_, _, rfl, OwnI.nil _ _ _, OwnI.nil _ _ _, .inl rfl, hT0⟩
    · have e0 : saOk rows zs = true := by unfold saOk; rw [q, q2]; rfl
      have e1 : saN rows zs = (rkN rows zs).take (headN (rkC rows zs)) := by unfold saN; rw [e0]; rfl
      have e2 : saC rows zs = (rkC rows zs).take (headN (rkC rows zs)) := by unfold saC; rw [e0]; rfl
      rw [e0, e1, e2]
      rw [q2] at KL
      have HQ := Lib.hid q
      have hr12 := regOk_few' q
      have hz10 := lsOk_small q2
      clear q q2 e0 e1 e2
      go_enter Tryz.func19, Tryz.ntmps19
      go_wp2_with fail
      refine (KV.out _ hT0).mono ?_
      rintro e w1 ⟨rfl, hb1⟩
      replace hT0 := Below_then hT0 hb1
      replace hR0 := heap_keepB hR0 hb1
      replace hF0 := heap_keepB hF0 hb1
      clear hb1
      replace cR := cell_of hR0 0
      replace cF := cell_of hF0 0
      go_wp2_with fail
      refine (KL.out _ hT0).mono ?_
      rintro e w2 ⟨rfl, hb1⟩
      replace hT0 := Below_then hT0 hb1
      replace hR0 := heap_keepB hR0 hb1
      replace hF0 := heap_keepB hF0 hb1
      clear hb1
      replace cR := cell_of hR0 0
      replace cF := cell_of hF0 0
      have hbase := hT0.size
      have cF9 := Lib.hid cF
      go_wp2_with fail
      refine (ranked_any 48 #[.pointer (some ⟨w.heap.size + 1, 0, none⟩)] ad c zs.length (cntG zs) rows _ (HH.out.below hT0) (by omega) (by omega) (fun g hg => cntG_bd zs g) cf_sa (fun g w' hg hb => sa_cl g A2 c2 (w.heap.size + 1) zs w' (regOk_mem HQ.out hg) (keep_cell cF9.out hb) ((H2.out.below hT0).below hb) hx)).mono ?_
      rintro e w5 ⟨u, v, rfl, h2, hb5⟩
      have hTT := Below_then hT0 hb5
      clear hb5 cF cR hR0 hF0 hT0 cF9
      replace h2 : Two w5 w2.heap.size u v (rkN rows zs) (rkC rows zs) := h2
      have hcu := h2.fst
      have hcv := h2.snd
      have hle := rkN_le rows zs (by omega) (by omega)
      have hll := rk_len rows zs
      obtain ⟨uA, uc, rfl, -⟩ := hcu.form
      obtain ⟨vA, vc, rfl, -⟩ := hcv.form
      obtain ⟨xs, hxs⟩ : ∃ xs, xs = rkN rows zs := ⟨_, rfl⟩
      obtain ⟨ys, hys⟩ : ∃ ys, ys = rkC rows zs := ⟨_, rfl⟩
      rw [← hxs] at h2 hcu hll hle ⊢
      rw [← hys] at h2 hcv hll ⊢
      have HXS := Lib.hid hxs
      have HYS := Lib.hid hys
      have HLL := Lib.hid hll
      have HUC := Lib.hid hcu.cap
      have HVC := Lib.hid hcv.cap
      have HV := Lib.hid hcv.rdv
      have H2' := Lib.hid h2
      have hyl : ys.length ≤ 20000 := by omega
      clear hxs hys hcu hcv hll h2
      go_wp2_with fail
      go_loopw [9] (fun nv wr => ∃ k : Nat, k ≤ ys.length ∧ nv = .int .i64 k ∧ (∀ (j : Nat) y, j < k → ys[j]? = some y → 0 < y) ∧ w5 = wr) (fun nv _ => ys.length - (intOf nv).toNat)
      case atStart => exact ⟨0, Nat.zero_le _, rfl, fun j y hj => by omega, rfl⟩
      case round =>
        obtain ⟨k, hk, rfl, hall, rfl⟩ := hrel
        have HALL := Lib.hid hall
        clear hall
        by_cases hlt : k < ys.length
        · have i1 : (k : Int) < (ys.length : Int) := by omega
          have d1 : decide (k < ys.length) = true := by simpa using hlt
          obtain ⟨b, off, e0, c1, -⟩ := HV.out.at_ hlt
          subst e0
          obtain ⟨y, hy⟩ : ∃ y, y = ys[k] := ⟨_, rfl⟩
          rw [← hy] at c1
          have HY := Lib.hid (show ys[k]? = some y by rw [hy]; exact List.getElem?_eq_getElem hlt)
          clear hy
          by_cases hp : 0 < y
          · go_wp2
            go_roundw
            case rel =>
              refine ⟨k + 1, by omega, by go_num, fun j z hj hz => ?_, by first | trivial | rfl⟩
              by_cases e : j = k
              · subst e
                rw [HY.out] at hz
                obtain rfl := Option.some.inj hz
                exact hp
              · exact HALL.out j z (by omega) hz
            case measure => simp [intOf]; omega
          · have hn := headN_eq ys k (by omega) HALL.out (fun z hz => by rw [HY.out] at hz; obtain rfl := Option.some.inj hz; exact hp)
            have HN := Lib.hid hn
            clear hn
            go_wp2_with fail
            have sa1 : (k : Int) ≤ (uc : Int) := by have := HUC.out; have := HLL.out; omega
            have sa2 : (k : Int) ≤ (vc : Int) := by have := HVC.out; omega
            have sa3 : (0 : Int) ≤ (k : Int) := by omega
            refine wp_region_noPanic ?_
            refine wp_region_held_drew (S := (fun w' => Below w5.heap.size w5 w')) (by kernel_rfl) (Below.refl _ _).drew (fun hHeld => ?_)
            refine wpAnyH_take (i := 0) (oi := _) (v := ?_) rfl (by kernel_rfl) (by kernel_rfl) (by kernel_rfl) (fun _ _ _ h => h) (Or.inl ⟨by rfl, ?_⟩) (by assumption) ?_
            rotate_left
            · intro w hSw; clear hSw; first | (go_simp; done) | (go_simp; with_reducible rfl)
            simp only [Act.put, List.getElem_toArray, List.getElem_cons_succ, List.getElem_cons_zero, List.setIfInBounds_toArray, List.set_cons_zero, List.set_cons_succ]
            refine wpAnyH_take (i := 1) (oi := _) (v := ?_) rfl (by kernel_rfl) (by kernel_rfl) (by kernel_rfl) (fun _ _ _ h => h) (Or.inl ⟨by rfl, ?_⟩) (by assumption) ?_
            rotate_left
            · intro w hSw; clear hSw; first | (go_simp; done) | (go_simp; with_reducible rfl)
            simp only [Act.put, List.getElem_toArray, List.getElem_cons_succ, List.getElem_cons_zero, List.setIfInBounds_toArray, List.set_cons_zero, List.set_cons_succ]
            refine wpAnyH_take (i := 2) (oi := _) (v := ?_) rfl (by kernel_rfl) (by kernel_rfl) (by kernel_rfl) (fun _ _ _ h => h) (Or.inl ⟨by rfl, ?_⟩) (by assumption) ?_
            rotate_left
            · intro w hSw; clear hSw; first | (go_simp; done) | (go_simp; with_reducible rfl)
            simp only [Act.put, List.getElem_toArray, List.getElem_cons_succ, List.getElem_cons_zero, List.setIfInBounds_toArray, List.set_cons_zero, List.set_cons_succ]
            refine wpAnyH_take (i := 3) (oi := _) (v := ?_) rfl (by kernel_rfl) (by kernel_rfl) (by kernel_rfl) (fun _ _ _ h => h) (Or.inl ⟨by rfl, ?_⟩) (by assumption) ?_
            rotate_left
            · intro w hSw; clear hSw; first | (go_simp; done) | (go_simp; with_reducible rfl)
            simp only [Act.put, List.getElem_toArray, List.getElem_cons_succ, List.getElem_cons_zero, List.setIfInBounds_toArray, List.set_cons_zero, List.set_cons_succ]
            refine wpAnyH_take (i := 4) (oi := _) (v := ?_) rfl (by kernel_rfl) (by kernel_rfl) (by kernel_rfl) (fun _ _ _ h => h) (Or.inl ⟨by rfl, ?_⟩) (by assumption) ?_
            rotate_left
            · intro w hSw; clear hSw; first | (go_simp; done) | (go_simp; with_reducible rfl)
            simp only [Act.put, List.getElem_toArray, List.getElem_cons_succ, List.getElem_cons_zero, List.setIfInBounds_toArray, List.set_cons_zero, List.set_cons_succ]
            refine wpAnyH_take (i := 5) (oi := _) (v := ?_) rfl (by kernel_rfl) (by kernel_rfl) (by kernel_rfl) (fun _ _ _ h => h) (Or.inl ⟨by rfl, ?_⟩) (by assumption) ?_
            rotate_left
            · intro w hSw; clear hSw; first | (go_simp; done) | (go_simp; with_reducible rfl)
            simp only [Act.put, List.getElem_toArray, List.getElem_cons_succ, List.getElem_cons_zero, List.setIfInBounds_toArray, List.set_cons_zero, List.set_cons_succ]
            refine wpAnyH_take (i := 6) (oi := _) (v := ?_) rfl (by kernel_rfl) (by kernel_rfl) (by kernel_rfl) (fun _ _ _ h => h) (Or.inl ⟨by rfl, ?_⟩) (by assumption) ?_
            rotate_left
            · intro w hSw; clear hSw; first | (go_simp; done) | (go_simp; with_reducible rfl)
            simp only [Act.put, List.getElem_toArray, List.getElem_cons_succ, List.getElem_cons_zero, List.setIfInBounds_toArray, List.set_cons_zero, List.set_cons_succ]
            refine wpAnyH_take (i := 7) (oi := _) (v := ?_) rfl (by kernel_rfl) (by kernel_rfl) (by kernel_rfl) (fun _ _ _ h => h) (Or.inl ⟨by rfl, ?_⟩) (by assumption) ?_
            rotate_left
            · intro w hSw; clear hSw; first | (go_simp; done) | (go_simp; with_reducible rfl)
            simp only [Act.put, List.getElem_toArray, List.getElem_cons_succ, List.getElem_cons_zero, List.setIfInBounds_toArray, List.set_cons_zero, List.set_cons_succ]
            refine wpAnyH_take (i := 8) (oi := _) (v := ?_) rfl (by kernel_rfl) (by kernel_rfl) (by kernel_rfl) (fun _ _ _ h => h) (Or.inl ⟨by rfl, ?_⟩) (by assumption) ?_
            rotate_left
            · intro w hSw; clear hSw; first | (go_simp; done) | (go_simp; with_reducible rfl)
            simp only [Act.put, List.getElem_toArray, List.getElem_cons_succ, List.getElem_cons_zero, List.setIfInBounds_toArray, List.set_cons_zero, List.set_cons_succ]
            refine wpAnyH_done (by kernel_rfl) ?_ _
            refine NoPanic.normal ?_
            have hb9 := hHeld
            clear hHeld
            have h9a := OwnI.base ((H2'.out.below hb9).fst.take k (by have := HLL.out; omega)) hbase
            have h9b := OwnI.base ((H2'.out.below hb9).snd.take k hk) hbase
            have h9c := sep_len H2'.out.sep k k
            have hT9 := Below_then hTT hb9
            rw [show xs.take k = (rkN rows zs).take (headN (rkC rows zs)) by rw [← HXS.out, ← HYS.out, HN.out]] at h9a
            rw [show ys.take k = (rkC rows zs).take (headN (rkC rows zs)) by rw [← HYS.out, HN.out]] at h9b
            go_wp2
            exact bodyPost_ret (by simp [results, Tryz.results19, go_sem]) rfl ⟨_, _, rfl, h9a, h9b, h9c, hT9⟩
        · have hke : k = ys.length := by omega
          have i1 : ¬ (k : Int) < (ys.length : Int) := by omega
          have d1 : decide (k < ys.length) = false := by simpa using hlt
          have hn := headN_eq ys k (by omega) HALL.out (fun z hz => by rw [List.getElem?_eq_none (by omega)] at hz; cases hz)
          have HN := Lib.hid hn
          clear hn hke
          go_wp2_with fail
          have sa1 : (k : Int) ≤ (uc : Int) := by have := HUC.out; have := HLL.out; omega
          have sa2 : (k : Int) ≤ (vc : Int) := by have := HVC.out; omega
          have sa3 : (0 : Int) ≤ (k : Int) := by omega
          refine wp_region_noPanic ?_
          refine wp_region_held_drew (S := (fun w' => Below w5.heap.size w5 w')) (by kernel_rfl) (Below.refl _ _).drew (fun hHeld => ?_)
          refine wpAnyH_take (i := 0) (oi := _) (v := ?_) rfl (by kernel_rfl) (by kernel_rfl) (by kernel_rfl) (fun _ _ _ h => h) (Or.inl ⟨by rfl, ?_⟩) (by assumption) ?_
          rotate_left
          · intro w hSw; clear hSw; first | (go_simp; done) | (go_simp; with_reducible rfl)
          simp only [Act.put, List.getElem_toArray, List.getElem_cons_succ, List.getElem_cons_zero, List.setIfInBounds_toArray, List.set_cons_zero, List.set_cons_succ]
          refine wpAnyH_take (i := 1) (oi := _) (v := ?_) rfl (by kernel_rfl) (by kernel_rfl) (by kernel_rfl) (fun _ _ _ h => h) (Or.inl ⟨by rfl, ?_⟩) (by assumption) ?_
          rotate_left
          · intro w hSw; clear hSw; first | (go_simp; done) | (go_simp; with_reducible rfl)
          simp only [Act.put, List.getElem_toArray, List.getElem_cons_succ, List.getElem_cons_zero, List.setIfInBounds_toArray, List.set_cons_zero, List.set_cons_succ]
          refine wpAnyH_take (i := 2) (oi := _) (v := ?_) rfl (by kernel_rfl) (by kernel_rfl) (by kernel_rfl) (fun _ _ _ h => h) (Or.inl ⟨by rfl, ?_⟩) (by assumption) ?_
          rotate_left
          · intro w hSw; clear hSw; first | (go_simp; done) | (go_simp; with_reducible rfl)
          simp only [Act.put, List.getElem_toArray, List.getElem_cons_succ, List.getElem_cons_zero, List.setIfInBounds_toArray, List.set_cons_zero, List.set_cons_succ]
          refine wpAnyH_take (i := 3) (oi := _) (v := ?_) rfl (by kernel_rfl) (by kernel_rfl) (by kernel_rfl) (fun _ _ _ h => h) (Or.inl ⟨by rfl, ?_⟩) (by assumption) ?_
          rotate_left
          · intro w hSw; clear hSw; first | (go_simp; done) | (go_simp; with_reducible rfl)
          simp only [Act.put, List.getElem_toArray, List.getElem_cons_succ, List.getElem_cons_zero, List.setIfInBounds_toArray, List.set_cons_zero, List.set_cons_succ]
          refine wpAnyH_take (i := 4) (oi := _) (v := ?_) rfl (by kernel_rfl) (by kernel_rfl) (by kernel_rfl) (fun _ _ _ h => h) (Or.inl ⟨by rfl, ?_⟩) (by assumption) ?_
          rotate_left
          · intro w hSw; clear hSw; first | (go_simp; done) | (go_simp; with_reducible rfl)
          simp only [Act.put, List.getElem_toArray, List.getElem_cons_succ, List.getElem_cons_zero, List.setIfInBounds_toArray, List.set_cons_zero, List.set_cons_succ]
          refine wpAnyH_take (i := 5) (oi := _) (v := ?_) rfl (by kernel_rfl) (by kernel_rfl) (by kernel_rfl) (fun _ _ _ h => h) (Or.inl ⟨by rfl, ?_⟩) (by assumption) ?_
          rotate_left
          · intro w hSw; clear hSw; first | (go_simp; done) | (go_simp; with_reducible rfl)
          simp only [Act.put, List.getElem_toArray, List.getElem_cons_succ, List.getElem_cons_zero, List.setIfInBounds_toArray, List.set_cons_zero, List.set_cons_succ]
          refine wpAnyH_take (i := 6) (oi := _) (v := ?_) rfl (by kernel_rfl) (by kernel_rfl) (by kernel_rfl) (fun _ _ _ h => h) (Or.inl ⟨by rfl, ?_⟩) (by assumption) ?_
          rotate_left
          · intro w hSw; clear hSw; first | (go_simp; done) | (go_simp; with_reducible rfl)
          simp only [Act.put, List.getElem_toArray, List.getElem_cons_succ, List.getElem_cons_zero, List.setIfInBounds_toArray, List.set_cons_zero, List.set_cons_succ]
          refine wpAnyH_take (i := 7) (oi := _) (v := ?_) rfl (by kernel_rfl) (by kernel_rfl) (by kernel_rfl) (fun _ _ _ h => h) (Or.inl ⟨by rfl, ?_⟩) (by assumption) ?_
          rotate_left
          · intro w hSw; clear hSw; first | (go_simp; done) | (go_simp; with_reducible rfl)
          simp only [Act.put, List.getElem_toArray, List.getElem_cons_succ, List.getElem_cons_zero, List.setIfInBounds_toArray, List.set_cons_zero, List.set_cons_succ]
          refine wpAnyH_take (i := 8) (oi := _) (v := ?_) rfl (by kernel_rfl) (by kernel_rfl) (by kernel_rfl) (fun _ _ _ h => h) (Or.inl ⟨by rfl, ?_⟩) (by assumption) ?_
          rotate_left
          · intro w hSw; clear hSw; first | (go_simp; done) | (go_simp; with_reducible rfl)
          simp only [Act.put, List.getElem_toArray, List.getElem_cons_succ, List.getElem_cons_zero, List.setIfInBounds_toArray, List.set_cons_zero, List.set_cons_succ]
          refine wpAnyH_done (by kernel_rfl) ?_ _
          refine NoPanic.normal ?_
          have hb9 := hHeld
          clear hHeld
          have h9a := OwnI.base ((H2'.out.below hb9).fst.take k (by have := HLL.out; omega)) hbase
          have h9b := OwnI.base ((H2'.out.below hb9).snd.take k hk) hbase
          have h9c := sep_len H2'.out.sep k k
          have hT9 := Below_then hTT hb9
          rw [show xs.take k = (rkN rows zs).take (headN (rkC rows zs)) by rw [← HXS.out, ← HYS.out, HN.out]] at h9a
          rw [show ys.take k = (rkC rows zs).take (headN (rkC rows zs)) by rw [← HYS.out, HN.out]] at h9b
          go_wp2
          exact bodyPost_ret (by simp [results, Tryz.results19, go_sem]) rfl ⟨_, _, rfl, h9a, h9b, h9c, hT9⟩
set_option maxHeartbeats 8000000 in
set_option maxRecDepth 100000 in
theorem specSearch_any (ad : Addr) (c : Nat) (rows : List GrantD) (A2 : Option Addr) (c2 : Nat) (zs : List ByteArray) (w : World) (hr : RdR 18 w (some ad) (gcs rows)) (hl : rows.length ≤ 1048576) (hs : ∀ g ∈ rows, g.s.size ≤ maxLen) (h2 : RdS w A2 zs) (hx : zs.length ≤ 1048576) (hm : ∀ s ∈ zs, s.size ≤ maxLen) :
    Calls Tryz.prog 17 #[.agg #[.slice (some ad) rows.length c], .slice A2 zs.length c2] w (SaOk w (saN rows zs) (saC rows zs) (saOk rows zs)) := by
  have KV := Lib.hid (fun (w' : World) (hb : Below w.heap.size w w') => l16Good_any (some ad) c rows w' (hr.below hb) hl hs)
  have KL := Lib.hid (fun (w' : World) (hb : Below w.heap.size w w') => l17List_any A2 c2 zs w' (h2.below hb) hx hm)
  have HH := Lib.hid hr
  have H2 := Lib.hid h2
  have hR0 : (w.alloc (.cells #[.slice (some ad) rows.length c] 37)).heap[w.heap.size]? = some (.cells #[.slice (some ad) rows.length c] 37 (0, 0)) := heap_hit _ _ _ rfl
  have hT0 : Below w.heap.size w (w.alloc (.cells #[.slice (some ad) rows.length c] 37)) := Below_al (Below.refl _ _) _
  have cR := cell_of hR0 0
  clear hs hm hr h2
  cases q : regOk rows
  · have e0 : saOk rows zs = false := by unfold saOk; rw [q]; rfl
    have e1 : saN rows zs = [] := by unfold saN; rw [e0]; rfl
    have e2 : saC rows zs = [] := by unfold saC; rw [e0]; rfl
    rw [e0, e1, e2]
    rw [q] at KV
    clear q KL e0 e1 e2
    go_enter Tryz.func17, Tryz.ntmps17
    go_wp2_with fail
    refine (KV.out _ hT0).mono ?_
    rintro e w1 ⟨rfl, hb1⟩
    replace hT0 := Below_then hT0 hb1
    replace hR0 := heap_keepB hR0 hb1
    clear hb1
    replace cR := cell_of hR0 0
    clear cR hR0
    have hs0 := hT0.size
    have hW9 := Below_al (Below_al hT0 (.cells #[] 3)) (.cells #[] 3)
    have hT9 := Two.none0 w1 w.heap.size hs0
    go_wp2
    exact bodyPost_ret (by simp [results, Tryz.results17, go_sem]) rfl ⟨_, _, rfl, hT9.fst, hT9.snd, hT9.sep, hW9⟩
  · rw [q] at KV
    cases q2 : lsOk zs
    · have e0 : saOk rows zs = false := by unfold saOk; rw [q2]; simp
      have e1 : saN rows zs = [] := by unfold saN; rw [e0]; rfl
      have e2 : saC rows zs = [] := by unfold saC; rw [e0]; rfl
      rw [e0, e1, e2]
      rw [q2] at KL
      clear q q2 e0 e1 e2
      go_enter Tryz.func17, Tryz.ntmps17
      go_wp2_with fail
      refine (KV.out _ hT0).mono ?_
      rintro e w1 ⟨rfl, hb1⟩
      replace hT0 := Below_then hT0 hb1
      replace hR0 := heap_keepB hR0 hb1
      clear hb1
      replace cR := cell_of hR0 0
      go_wp2_with fail
      refine (KL.out _ hT0).mono ?_
      rintro e w2 ⟨rfl, hb1⟩
      replace hT0 := Below_then hT0 hb1
      replace hR0 := heap_keepB hR0 hb1
      clear hb1
      replace cR := cell_of hR0 0
      clear cR hR0
      have hs0 := hT0.size
      have hW9 := Below_al (Below_al hT0 (.cells #[] 3)) (.cells #[] 3)
      have hT9 := Two.none0 w2 w.heap.size hs0
      go_wp2
      exact bodyPost_ret (by simp [results, Tryz.results17, go_sem]) rfl ⟨_, _, rfl, hT9.fst, hT9.snd, hT9.sep, hW9⟩
    · have e0 : saOk rows zs = true := by unfold saOk; rw [q, q2]; rfl
      have e1 : saN rows zs = (rkN rows zs).take (headN (rkC rows zs)) := by unfold saN; rw [e0]; rfl
      have e2 : saC rows zs = (rkC rows zs).take (headN (rkC rows zs)) := by unfold saC; rw [e0]; rfl
      rw [e0, e1, e2]
      rw [q2] at KL
      have HQ := Lib.hid q
      have hr12 := regOk_few' q
      have hz10 := lsOk_small q2
      clear q q2 e0 e1 e2
      go_enter Tryz.func17, Tryz.ntmps17
      go_wp2_with fail
      refine (KV.out _ hT0).mono ?_
      rintro e w1 ⟨rfl, hb1⟩
      replace hT0 := Below_then hT0 hb1
      replace hR0 := heap_keepB hR0 hb1
      clear hb1
      replace cR := cell_of hR0 0
      go_wp2_with fail
      refine (KL.out _ hT0).mono ?_
      rintro e w2 ⟨rfl, hb1⟩
      replace hT0 := Below_then hT0 hb1
      replace hR0 := heap_keepB hR0 hb1
      clear hb1
      replace cR := cell_of hR0 0
      have hbase := hT0.size
      go_wp2_with fail
      refine (l17Rank_any ad c rows A2 c2 zs _ (HH.out.below hT0) (by omega) (by omega) (H2.out.below hT0) (fun g hg => regOk_mem HQ.out hg)).mono ?_
      rintro e w5 ⟨u, v, rfl, h2, hb5⟩
      have hTT := Below_then hT0 hb5
      clear hb5 cR hR0 hT0
      replace h2 : Two w5 w2.heap.size u v (rkN rows zs) (rkC rows zs) := h2
      have hcu := h2.fst
      have hcv := h2.snd
      have hle := rkN_le rows zs (by omega) (by omega)
      have hll := rk_len rows zs
      obtain ⟨uA, uc, rfl, -⟩ := hcu.form
      obtain ⟨vA, vc, rfl, -⟩ := hcv.form
      obtain ⟨xs, hxs⟩ : ∃ xs, xs = rkN rows zs := ⟨_, rfl⟩
      obtain ⟨ys, hys⟩ : ∃ ys, ys = rkC rows zs := ⟨_, rfl⟩
      rw [← hxs] at h2 hcu hll hle ⊢
      rw [← hys] at h2 hcv hll ⊢
      have HXS := Lib.hid hxs
      have HYS := Lib.hid hys
      have HLL := Lib.hid hll
      have HUC := Lib.hid hcu.cap
      have HVC := Lib.hid hcv.cap
      have HV := Lib.hid hcv.rdv
      have H2' := Lib.hid h2
      have hyl : ys.length ≤ 20000 := by omega
      clear hxs hys hcu hcv hll h2
      go_wp2_with fail
      go_loopw [9] (fun nv wr => ∃ k : Nat, k ≤ ys.length ∧ nv = .int .i64 k ∧ (∀ (j : Nat) y, j < k → ys[j]? = some y → 0 < y) ∧ w5 = wr) (fun nv _ => ys.length - (intOf nv).toNat)
      case atStart => exact ⟨0, Nat.zero_le _, rfl, fun j y hj => by omega, rfl⟩
      case round =>
        obtain ⟨k, hk, rfl, hall, rfl⟩ := hrel
        have HALL := Lib.hid hall
        clear hall
        by_cases hlt : k < ys.length
        · have i1 : (k : Int) < (ys.length : Int) := by omega
          have d1 : decide (k < ys.length) = true := by simpa using hlt
          obtain ⟨b, off, e0, c1, -⟩ := HV.out.at_ hlt
          subst e0
          obtain ⟨y, hy⟩ : ∃ y, y = ys[k] := ⟨_, rfl⟩
          rw [← hy] at c1
          have HY := Lib.hid (show ys[k]? = some y by rw [hy]; exact List.getElem?_eq_getElem hlt)
          clear hy
          by_cases hp : 0 < y
          · go_wp2
            go_roundw
            case rel =>
              refine ⟨k + 1, by omega, by go_num, fun j z hj hz => ?_, by first | trivial | rfl⟩
              by_cases e : j = k
              · subst e
                rw [HY.out] at hz
                obtain rfl := Option.some.inj hz
                exact hp
              · exact HALL.out j z (by omega) hz
            case measure => simp [intOf]; omega
          · have hn := headN_eq ys k (by omega) HALL.out (fun z hz => by rw [HY.out] at hz; obtain rfl := Option.some.inj hz; exact hp)
            have HN := Lib.hid hn
            clear hn
            go_wp2_with fail
            have sa1 : (k : Int) ≤ (uc : Int) := by have := HUC.out; have := HLL.out; omega
            have sa2 : (k : Int) ≤ (vc : Int) := by have := HVC.out; omega
            have sa3 : (0 : Int) ≤ (k : Int) := by omega
            refine wp_region_noPanic ?_
            refine wp_region_held_drew (S := (fun w' => Below w5.heap.size w5 w')) (by kernel_rfl) (Below.refl _ _).drew (fun hHeld => ?_)
            refine wpAnyH_take (i := 0) (oi := _) (v := ?_) rfl (by kernel_rfl) (by kernel_rfl) (by kernel_rfl) (fun _ _ _ h => h) (Or.inl ⟨by rfl, ?_⟩) (by assumption) ?_
            rotate_left
            · intro w hSw; clear hSw; first | (go_simp; done) | (go_simp; with_reducible rfl)
            simp only [Act.put, List.getElem_toArray, List.getElem_cons_succ, List.getElem_cons_zero, List.setIfInBounds_toArray, List.set_cons_zero, List.set_cons_succ]
            refine wpAnyH_take (i := 1) (oi := _) (v := ?_) rfl (by kernel_rfl) (by kernel_rfl) (by kernel_rfl) (fun _ _ _ h => h) (Or.inl ⟨by rfl, ?_⟩) (by assumption) ?_
            rotate_left
            · intro w hSw; clear hSw; first | (go_simp; done) | (go_simp; with_reducible rfl)
            simp only [Act.put, List.getElem_toArray, List.getElem_cons_succ, List.getElem_cons_zero, List.setIfInBounds_toArray, List.set_cons_zero, List.set_cons_succ]
            refine wpAnyH_take (i := 2) (oi := _) (v := ?_) rfl (by kernel_rfl) (by kernel_rfl) (by kernel_rfl) (fun _ _ _ h => h) (Or.inl ⟨by rfl, ?_⟩) (by assumption) ?_
            rotate_left
            · intro w hSw; clear hSw; first | (go_simp; done) | (go_simp; with_reducible rfl)
            simp only [Act.put, List.getElem_toArray, List.getElem_cons_succ, List.getElem_cons_zero, List.setIfInBounds_toArray, List.set_cons_zero, List.set_cons_succ]
            refine wpAnyH_take (i := 3) (oi := _) (v := ?_) rfl (by kernel_rfl) (by kernel_rfl) (by kernel_rfl) (fun _ _ _ h => h) (Or.inl ⟨by rfl, ?_⟩) (by assumption) ?_
            rotate_left
            · intro w hSw; clear hSw; first | (go_simp; done) | (go_simp; with_reducible rfl)
            simp only [Act.put, List.getElem_toArray, List.getElem_cons_succ, List.getElem_cons_zero, List.setIfInBounds_toArray, List.set_cons_zero, List.set_cons_succ]
            refine wpAnyH_take (i := 4) (oi := _) (v := ?_) rfl (by kernel_rfl) (by kernel_rfl) (by kernel_rfl) (fun _ _ _ h => h) (Or.inl ⟨by rfl, ?_⟩) (by assumption) ?_
            rotate_left
            · intro w hSw; clear hSw; first | (go_simp; done) | (go_simp; with_reducible rfl)
            simp only [Act.put, List.getElem_toArray, List.getElem_cons_succ, List.getElem_cons_zero, List.setIfInBounds_toArray, List.set_cons_zero, List.set_cons_succ]
            refine wpAnyH_take (i := 5) (oi := _) (v := ?_) rfl (by kernel_rfl) (by kernel_rfl) (by kernel_rfl) (fun _ _ _ h => h) (Or.inl ⟨by rfl, ?_⟩) (by assumption) ?_
            rotate_left
            · intro w hSw; clear hSw; first | (go_simp; done) | (go_simp; with_reducible rfl)
            simp only [Act.put, List.getElem_toArray, List.getElem_cons_succ, List.getElem_cons_zero, List.setIfInBounds_toArray, List.set_cons_zero, List.set_cons_succ]
            refine wpAnyH_take (i := 6) (oi := _) (v := ?_) rfl (by kernel_rfl) (by kernel_rfl) (by kernel_rfl) (fun _ _ _ h => h) (Or.inl ⟨by rfl, ?_⟩) (by assumption) ?_
            rotate_left
            · intro w hSw; clear hSw; first | (go_simp; done) | (go_simp; with_reducible rfl)
            simp only [Act.put, List.getElem_toArray, List.getElem_cons_succ, List.getElem_cons_zero, List.setIfInBounds_toArray, List.set_cons_zero, List.set_cons_succ]
            refine wpAnyH_take (i := 7) (oi := _) (v := ?_) rfl (by kernel_rfl) (by kernel_rfl) (by kernel_rfl) (fun _ _ _ h => h) (Or.inl ⟨by rfl, ?_⟩) (by assumption) ?_
            rotate_left
            · intro w hSw; clear hSw; first | (go_simp; done) | (go_simp; with_reducible rfl)
            simp only [Act.put, List.getElem_toArray, List.getElem_cons_succ, List.getElem_cons_zero, List.setIfInBounds_toArray, List.set_cons_zero, List.set_cons_succ]
            refine wpAnyH_take (i := 8) (oi := _) (v := ?_) rfl (by kernel_rfl) (by kernel_rfl) (by kernel_rfl) (fun _ _ _ h => h) (Or.inl ⟨by rfl, ?_⟩) (by assumption) ?_
            rotate_left
            · intro w hSw; clear hSw; first | (go_simp; done) | (go_simp; with_reducible rfl)
            simp only [Act.put, List.getElem_toArray, List.getElem_cons_succ, List.getElem_cons_zero, List.setIfInBounds_toArray, List.set_cons_zero, List.set_cons_succ]
            refine wpAnyH_done (by kernel_rfl) ?_ _
            refine NoPanic.normal ?_
            have hb9 := hHeld
            clear hHeld
            have h9a := OwnI.base ((H2'.out.below hb9).fst.take k (by have := HLL.out; omega)) hbase
            have h9b := OwnI.base ((H2'.out.below hb9).snd.take k hk) hbase
            have h9c := sep_len H2'.out.sep k k
            have hT9 := Below_then hTT hb9
            rw [show xs.take k = (rkN rows zs).take (headN (rkC rows zs)) by rw [← HXS.out, ← HYS.out, HN.out]] at h9a
            rw [show ys.take k = (rkC rows zs).take (headN (rkC rows zs)) by rw [← HYS.out, HN.out]] at h9b
            go_wp2
            exact bodyPost_ret (by simp [results, Tryz.results17, go_sem]) rfl ⟨_, _, rfl, h9a, h9b, h9c, hT9⟩
        · have hke : k = ys.length := by omega
          have i1 : ¬ (k : Int) < (ys.length : Int) := by omega
          have d1 : decide (k < ys.length) = false := by simpa using hlt
          have hn := headN_eq ys k (by omega) HALL.out (fun z hz => by rw [List.getElem?_eq_none (by omega)] at hz; cases hz)
          have HN := Lib.hid hn
          clear hn hke
          go_wp2_with fail
          have sa1 : (k : Int) ≤ (uc : Int) := by have := HUC.out; have := HLL.out; omega
          have sa2 : (k : Int) ≤ (vc : Int) := by have := HVC.out; omega
          have sa3 : (0 : Int) ≤ (k : Int) := by omega
          refine wp_region_noPanic ?_
          refine wp_region_held_drew (S := (fun w' => Below w5.heap.size w5 w')) (by kernel_rfl) (Below.refl _ _).drew (fun hHeld => ?_)
          refine wpAnyH_take (i := 0) (oi := _) (v := ?_) rfl (by kernel_rfl) (by kernel_rfl) (by kernel_rfl) (fun _ _ _ h => h) (Or.inl ⟨by rfl, ?_⟩) (by assumption) ?_
          rotate_left
          · intro w hSw; clear hSw; first | (go_simp; done) | (go_simp; with_reducible rfl)
          simp only [Act.put, List.getElem_toArray, List.getElem_cons_succ, List.getElem_cons_zero, List.setIfInBounds_toArray, List.set_cons_zero, List.set_cons_succ]
          refine wpAnyH_take (i := 1) (oi := _) (v := ?_) rfl (by kernel_rfl) (by kernel_rfl) (by kernel_rfl) (fun _ _ _ h => h) (Or.inl ⟨by rfl, ?_⟩) (by assumption) ?_
          rotate_left
          · intro w hSw; clear hSw; first | (go_simp; done) | (go_simp; with_reducible rfl)
          simp only [Act.put, List.getElem_toArray, List.getElem_cons_succ, List.getElem_cons_zero, List.setIfInBounds_toArray, List.set_cons_zero, List.set_cons_succ]
          refine wpAnyH_take (i := 2) (oi := _) (v := ?_) rfl (by kernel_rfl) (by kernel_rfl) (by kernel_rfl) (fun _ _ _ h => h) (Or.inl ⟨by rfl, ?_⟩) (by assumption) ?_
          rotate_left
          · intro w hSw; clear hSw; first | (go_simp; done) | (go_simp; with_reducible rfl)
          simp only [Act.put, List.getElem_toArray, List.getElem_cons_succ, List.getElem_cons_zero, List.setIfInBounds_toArray, List.set_cons_zero, List.set_cons_succ]
          refine wpAnyH_take (i := 3) (oi := _) (v := ?_) rfl (by kernel_rfl) (by kernel_rfl) (by kernel_rfl) (fun _ _ _ h => h) (Or.inl ⟨by rfl, ?_⟩) (by assumption) ?_
          rotate_left
          · intro w hSw; clear hSw; first | (go_simp; done) | (go_simp; with_reducible rfl)
          simp only [Act.put, List.getElem_toArray, List.getElem_cons_succ, List.getElem_cons_zero, List.setIfInBounds_toArray, List.set_cons_zero, List.set_cons_succ]
          refine wpAnyH_take (i := 4) (oi := _) (v := ?_) rfl (by kernel_rfl) (by kernel_rfl) (by kernel_rfl) (fun _ _ _ h => h) (Or.inl ⟨by rfl, ?_⟩) (by assumption) ?_
          rotate_left
          · intro w hSw; clear hSw; first | (go_simp; done) | (go_simp; with_reducible rfl)
          simp only [Act.put, List.getElem_toArray, List.getElem_cons_succ, List.getElem_cons_zero, List.setIfInBounds_toArray, List.set_cons_zero, List.set_cons_succ]
          refine wpAnyH_take (i := 5) (oi := _) (v := ?_) rfl (by kernel_rfl) (by kernel_rfl) (by kernel_rfl) (fun _ _ _ h => h) (Or.inl ⟨by rfl, ?_⟩) (by assumption) ?_
          rotate_left
          · intro w hSw; clear hSw; first | (go_simp; done) | (go_simp; with_reducible rfl)
          simp only [Act.put, List.getElem_toArray, List.getElem_cons_succ, List.getElem_cons_zero, List.setIfInBounds_toArray, List.set_cons_zero, List.set_cons_succ]
          refine wpAnyH_take (i := 6) (oi := _) (v := ?_) rfl (by kernel_rfl) (by kernel_rfl) (by kernel_rfl) (fun _ _ _ h => h) (Or.inl ⟨by rfl, ?_⟩) (by assumption) ?_
          rotate_left
          · intro w hSw; clear hSw; first | (go_simp; done) | (go_simp; with_reducible rfl)
          simp only [Act.put, List.getElem_toArray, List.getElem_cons_succ, List.getElem_cons_zero, List.setIfInBounds_toArray, List.set_cons_zero, List.set_cons_succ]
          refine wpAnyH_take (i := 7) (oi := _) (v := ?_) rfl (by kernel_rfl) (by kernel_rfl) (by kernel_rfl) (fun _ _ _ h => h) (Or.inl ⟨by rfl, ?_⟩) (by assumption) ?_
          rotate_left
          · intro w hSw; clear hSw; first | (go_simp; done) | (go_simp; with_reducible rfl)
          simp only [Act.put, List.getElem_toArray, List.getElem_cons_succ, List.getElem_cons_zero, List.setIfInBounds_toArray, List.set_cons_zero, List.set_cons_succ]
          refine wpAnyH_take (i := 8) (oi := _) (v := ?_) rfl (by kernel_rfl) (by kernel_rfl) (by kernel_rfl) (fun _ _ _ h => h) (Or.inl ⟨by rfl, ?_⟩) (by assumption) ?_
          rotate_left
          · intro w hSw; clear hSw; first | (go_simp; done) | (go_simp; with_reducible rfl)
          simp only [Act.put, List.getElem_toArray, List.getElem_cons_succ, List.getElem_cons_zero, List.setIfInBounds_toArray, List.set_cons_zero, List.set_cons_succ]
          refine wpAnyH_done (by kernel_rfl) ?_ _
          refine NoPanic.normal ?_
          have hb9 := hHeld
          clear hHeld
          have h9a := OwnI.base ((H2'.out.below hb9).fst.take k (by have := HLL.out; omega)) hbase
          have h9b := OwnI.base ((H2'.out.below hb9).snd.take k hk) hbase
          have h9c := sep_len H2'.out.sep k k
          have hT9 := Below_then hTT hb9
          rw [show xs.take k = (rkN rows zs).take (headN (rkC rows zs)) by rw [← HXS.out, ← HYS.out, HN.out]] at h9a
          rw [show ys.take k = (rkC rows zs).take (headN (rkC rows zs)) by rw [← HYS.out, HN.out]] at h9b
          go_wp2
          exact bodyPost_ret (by simp [results, Tryz.results17, go_sem]) rfl ⟨_, _, rfl, h9a, h9b, h9c, hT9⟩
end Go.Proofs.YtmjgogklalploaaGreatDoor
/-! ### Sim -/
namespace Go.Proofs.YtmjgogklalploaaGreatDoor
open Go.ChangeShapes Go.WideShapes Go.ChangeAt Go.RowKit
set_option linter.unusedVariables false
set_option linter.unusedSimpArgs false
section
variable {ops : Array Oper} {rest : List Oper} {op : Oper} {a : Act} {w : World} {Q : Exit → Act → World → Prop}
/-- A guarded load of arms that does run. -/
theorem ldAg (x : Operand) (ho : op.op = .load 42 x) (hw : Region.wanted op (yielded ops a.tmps) = true) (b o : Nat) (hx : a.eval x = .pointer (some ⟨b, o, none⟩)) (ad : ArmsD) (hc : w.rangeAt b o (ac ad))
    (h : wpList Tryz.prog ops Q rest (a.put op.dst (.agg (ac ad).toArray)) w) : wpList Tryz.prog ops Q (op :: rest) a w := by
  unfold wpList
  rw [if_pos hw]
  exact .inl (wp_load_mid _ x ho b o hx (ac ad) _ hc Tryz.underlying42 rfl (info_ac ad) h)
end
def simOk (rows : List GrantD) (a : ArmsD) (n : Int) : Bool := regOk rows && armsOk a && decide (1 ≤ n ∧ n ≤ 12)
def simL (rows : List GrantD) (a : ArmsD) (n : Int) : List Int := bif simOk rows a n then (rkN rows (featL a)).take (min n.toNat (rkN rows (featL a)).length) else []
theorem simL_le (rows : List GrantD) (a : ArmsD) (n : Int) : (simL rows a n).length ≤ 1000 := by
  unfold simL
  cases h : simOk rows a n
  · simp
  · unfold simOk at h
    rw [Bool.and_eq_true, decide_eq_true_iff] at h
    rw [cond_true, List.length_take]
    omega
theorem simOk_no1 {rows : List GrantD} {a : ArmsD} {n : Int} (h : regOk rows = false) : simOk rows a n = false := by unfold simOk; rw [h]; rfl
theorem simOk_no2 {rows : List GrantD} {a : ArmsD} {n : Int} (h : armsOk a = false) : simOk rows a n = false := by unfold simOk; rw [h]; simp
theorem simOk_no3 {rows : List GrantD} {a : ArmsD} {n : Int} (h : decide (1 ≤ n ∧ n ≤ 12) = false) : simOk rows a n = false := by unfold simOk; rw [h]; simp
theorem simL_no {rows : List GrantD} {a : ArmsD} {n : Int} (h : simOk rows a n = false) : simL rows a n = [] := by unfold simL; rw [h]; rfl
theorem cf_sim (args : Array Value) (w : World) : (callFunc 42 args).run Tryz.prog w = .ok (.enter 42 args) w := by kernel_rfl
set_option maxHeartbeats 2000000 in
theorem sim_cl (g : GrantD) (A2 : Option Addr) (c2 B : Nat) (zs : List ByteArray) (w : World) (gg : armsOk g.a = true) (hB : w.cell? ⟨B, 0, none⟩ = some (.slice A2 zs.length c2)) (h2 : RdS w A2 zs) (hx : zs.length ≤ 1048576) :
    Calls Tryz.prog 42 #[.agg (gc g).toArray, .pointer (some ⟨B, 0, none⟩)] w fun e w' => e = .returned (.int .i64 (cntG zs g)) ∧ Below w.heap.size w w' := by
  have KC := Lib.hid (fun w' (hb : Below w.heap.size w w') => shared_any g.a gg A2 c2 zs w' (h2.below hb) hx)
  have hA := (gblk_cells (heap_hit w (.cells (gc g).toArray 76) _ rfl)).2.2.2
  have cB := keep_cell hB (Below_al (Below.refl w.heap.size w) (.cells (gc g).toArray 76))
  have hW : Below w.heap.size w (w.alloc (.cells (gc g).toArray 76)) := Below_al (Below.refl _ _) _
  unfold cntG
  generalize cnt g.a zs = n at KC ⊢
  clear gg
  go_enter Tryz.func42, Tryz.ntmps42
  go_wp2_with (first | (refine ldA rfl _ rfl _ _ rfl g.a hA ?_) | fail)
  refine (KC.out _ hW).mono ?_
  rintro e w1 ⟨rfl, hb1⟩
  go_wp2
  go_ret
  exact ⟨rfl, Below_then hW hb1⟩
set_option maxHeartbeats 8000000 in
set_option maxRecDepth 100000 in
theorem implSim_any (ad : Addr) (c : Nat) (rows : List GrantD) (a : ArmsD) (n : Int) (w : World) (hr : RdR 18 w (some ad) (gcs rows)) (hl : rows.length ≤ 1048576) (hs : ∀ g ∈ rows, g.s.size ≤ maxLen) (hcap : rows.length ≤ c) (hcm : c ≤ maxLen) :
    Calls Tryz.prog 10 #[.agg #[.slice (some ad) rows.length c], .agg (ac a).toArray, .int .i64 n] w (IntsOk w (simL rows a n) (simOk rows a n)) := by
  have KV := Lib.hid (fun (w' : World) (hb : Below w.heap.size w w') => IsValidRegister_any (some ad) c rows w' (hr.below hb) hl hs hcap hcm)
  have KA := Lib.hid (fun w => IsValidArmsC a w)
  have KN := Lib.hid (fun w => inside_any n 1 12 w)
  have HH := Lib.hid hr
  have hR0 : ((w.alloc (.cells #[.slice (some ad) rows.length c] 37)).alloc (.cells (ac a).toArray 42)).heap[w.heap.size]? = some (.cells #[.slice (some ad) rows.length c] 37 (0, 0)) := heap_keepA (heap_hit _ _ _ rfl) _
  have hF0 : ((w.alloc (.cells #[.slice (some ad) rows.length c] 37)).alloc (.cells (ac a).toArray 42)).heap[w.heap.size + 1]? = some (.cells (ac a).toArray 42 (0, 0)) := heap_hit _ _ _ (by simp)
  have hT0 : Below w.heap.size w ((w.alloc (.cells #[.slice (some ad) rows.length c] 37)).alloc (.cells (ac a).toArray 42)) := Below_al (Below_al (Below.refl _ _) _) _
  have cR := cell_of hR0 0
  clear hs hr
  cases q : regOk rows
  · rw [simOk_no1 (a := a) (n := n) q, simL_no (simOk_no1 (a := a) (n := n) q)]
    rw [q] at KV
    clear q KA KN
    go_enter Tryz.func10, Tryz.ntmps10
    go_wp2_with fail
    refine (KV.out _ hT0).mono ?_
    rintro e w1 ⟨rfl, hb1⟩
    replace hT0 := Below_then hT0 hb1
    replace hR0 := heap_keepB hR0 hb1
    replace hF0 := heap_keepB hF0 hb1
    clear hb1
    replace cR := cell_of hR0 0
    clear cR hR0 hF0
    go_wp2
    go_ret2
    exact ⟨_, rfl, OwnI.nil _ _ _, hT0⟩
  · rw [q] at KV
    cases q2 : armsOk a
    · rw [simOk_no2 (rows := rows) (n := n) q2, simL_no (simOk_no2 (rows := rows) (n := n) q2)]
      rw [q2] at KA
      clear q q2 KN
      go_enter Tryz.func10, Tryz.ntmps10
      go_wp2_with fail
      refine (KV.out _ hT0).mono ?_
      rintro e w1 ⟨rfl, hb1⟩
      replace hT0 := Below_then hT0 hb1
      replace hR0 := heap_keepB hR0 hb1
      replace hF0 := heap_keepB hF0 hb1
      clear hb1
      replace cR := cell_of hR0 0
      go_wp2_with (first | (refine ldAg _ rfl (by kernel_rfl) _ _ rfl a (rangeAt_blk hF0) ?_) | (refine ldA rfl _ rfl _ _ rfl a (rangeAt_blk hF0) ?_) | fail)
      refine (KA.out _).mono ?_
      rintro e w2 ⟨rfl, hb1⟩
      replace hT0 := Below_then hT0 hb1
      replace hR0 := heap_keepB hR0 hb1
      replace hF0 := heap_keepB hF0 hb1
      clear hb1
      replace cR := cell_of hR0 0
      clear cR hR0 hF0
      go_wp2
      go_ret2
      exact ⟨_, rfl, OwnI.nil _ _ _, hT0⟩
    · rw [q2] at KA
      cases q3 : decide (1 ≤ n ∧ n ≤ 12)
      · rw [simOk_no3 (rows := rows) (a := a) q3, simL_no (simOk_no3 (rows := rows) (a := a) q3)]
        rw [q3] at KN
        clear q q2 q3
        go_enter Tryz.func10, Tryz.ntmps10
        go_wp2_with fail
        refine (KV.out _ hT0).mono ?_
        rintro e w1 ⟨rfl, hb1⟩
        replace hT0 := Below_then hT0 hb1
        replace hR0 := heap_keepB hR0 hb1
        replace hF0 := heap_keepB hF0 hb1
        clear hb1
        replace cR := cell_of hR0 0
        go_wp2_with (first | (refine ldAg _ rfl (by kernel_rfl) _ _ rfl a (rangeAt_blk hF0) ?_) | (refine ldA rfl _ rfl _ _ rfl a (rangeAt_blk hF0) ?_) | fail)
        refine (KA.out _).mono ?_
        rintro e w2 ⟨rfl, hb1⟩
        replace hT0 := Below_then hT0 hb1
        replace hR0 := heap_keepB hR0 hb1
        replace hF0 := heap_keepB hF0 hb1
        clear hb1
        replace cR := cell_of hR0 0
        go_wp2_with fail
        refine (KN.out _).mono ?_
        rintro e w3 ⟨rfl, rfl⟩
        clear cR hR0 hF0
        go_wp2
        go_ret2
        exact ⟨_, rfl, OwnI.nil _ _ _, hT0⟩
      · rw [q3] at KN
        have e0 : simOk rows a n = true := by unfold simOk; rw [q, q2, q3]; rfl
        have e1 : simL rows a n = (rkN rows (featL a)).take (min n.toNat (rkN rows (featL a)).length) := by unfold simL; rw [e0]; rfl
        rw [e0, e1]
        have HQ := Lib.hid q
        have hr12 := regOk_few' q
        have KF := Lib.hid (fun w => features_any a q2 w)
        have hfl := featL_len a
        obtain ⟨n1, n12⟩ := of_decide_eq_true q3
        clear q q2 q3 e0 e1
        go_enter Tryz.func10, Tryz.ntmps10
        go_wp2_with fail
        refine (KV.out _ hT0).mono ?_
        rintro e w1 ⟨rfl, hb1⟩
        replace hT0 := Below_then hT0 hb1
        replace hR0 := heap_keepB hR0 hb1
        replace hF0 := heap_keepB hF0 hb1
        clear hb1
        replace cR := cell_of hR0 0
        go_wp2_with (first | (refine ldAg _ rfl (by kernel_rfl) _ _ rfl a (rangeAt_blk hF0) ?_) | (refine ldA rfl _ rfl _ _ rfl a (rangeAt_blk hF0) ?_) | fail)
        refine (KA.out _).mono ?_
        rintro e w2 ⟨rfl, hb1⟩
        replace hT0 := Below_then hT0 hb1
        replace hR0 := heap_keepB hR0 hb1
        replace hF0 := heap_keepB hF0 hb1
        clear hb1
        replace cR := cell_of hR0 0
        go_wp2_with fail
        refine (KN.out _).mono ?_
        rintro e w3 ⟨rfl, rfl⟩
        have hbase := hT0.size
        go_wp2_with (first | (refine ldAg _ rfl (by kernel_rfl) _ _ rfl a (rangeAt_blk hF0) ?_) | (refine ldA rfl _ rfl _ _ rfl a (rangeAt_blk hF0) ?_) | fail)
        refine (KF.out _).mono ?_
        rintro e w5 ⟨v0, rfl, hO5, hb5⟩
        obtain ⟨fA, fc, rfl, hfr⟩ := hO5.form
        have hT5 := Below_then hT0 hb5
        have hR5 := heap_keepB hR0 hb5
        have cR5 := cell_of (heap_keepA hR5 (.cells #[.slice fA (featL a).length fc] 49)) 0
        have hT6 := Below_al hT5 (.cells #[.slice fA (featL a).length fc] 49)
        have cB := Lib.hid (cell_of (heap_hit w5 (.cells #[.slice fA (featL a).length fc] 49) _ rfl) 0)
        have hfr2 := Lib.hid (hfr.alloc (.cells #[.slice fA (featL a).length fc] 49))
        have hs5 := hT5.size
        clear hb5 hfr hO5 cR hR0 hF0 hT0 hR5
        go_wp2_with fail
        refine (ranked_any 42 #[.pointer (some ⟨w5.heap.size, 0, none⟩)] ad c (featL a).length (cntG (featL a)) rows _ (HH.out.below hT6) (by omega) (by omega) (fun g hg => cntG_bd _ g) cf_sim (fun g w' hg hb => sim_cl g fA fc w5.heap.size (featL a) w' (regOk_mem HQ.out hg) (keep_cell cB.out hb) (hfr2.out.below hb) (by omega))).mono ?_
        rintro e w6 ⟨u, v, rfl, h2, hb6⟩
        have hT7 := Below_then hT6 hb6
        have hcu := OwnI.base h2.fst (B' := w.heap.size) hT6.size
        clear h2 hb6 cR5 hT6 hT5
        replace hcu : OwnI w6 w.heap.size 3 u (rkN rows (featL a)) := hcu
        obtain ⟨uA, uc, rfl, -⟩ := hcu.form
        have hcap9 := hcu.cap
        have hle := rkN_le rows (featL a) (by omega) (by omega)
        obtain ⟨xs, hxs⟩ : ∃ xs, xs = rkN rows (featL a) := ⟨_, rfl⟩
        rw [← hxs] at hcu hcap9 hle ⊢
        have HXS := Lib.hid hxs
        clear hxs
        obtain ⟨m, hm⟩ : ∃ m : Nat, m = min n.toNat xs.length := ⟨_, rfl⟩
        have hmi : min n (xs.length : Int) = (m : Int) := by omega
        have hmle : m ≤ xs.length := by omega
        have hO9 := hcu.take m hmle
        rw [show xs.take m = (rkN rows (featL a)).take (min n.toNat (rkN rows (featL a)).length) by rw [← HXS.out, hm]] at hO9
        have sa1 : (m : Int) ≤ (uc : Int) := by omega
        have sa3 : (0 : Int) ≤ (m : Int) := by omega
        have hmx : (if n < (xs.length : Int) then n else (xs.length : Int)) = (m : Int) := by split <;> omega
        have hmx2 : (if n ≤ (xs.length : Int) then n else (xs.length : Int)) = (m : Int) := by split <;> omega
        have hmx3 : (if (xs.length : Int) < n then (xs.length : Int) else n) = (m : Int) := by split <;> omega
        have hmx4 : (if (xs.length : Int) ≤ n then (xs.length : Int) else n) = (m : Int) := by split <;> omega
        clear hm hmle hcap9
        go_wp2
        go_ret2
        exact ⟨_, rfl, hO9, hT7⟩
set_option maxHeartbeats 8000000 in
set_option maxRecDepth 100000 in
theorem specSim_any (ad : Addr) (c : Nat) (rows : List GrantD) (a : ArmsD) (n : Int) (w : World) (hr : RdR 18 w (some ad) (gcs rows)) (hl : rows.length ≤ 1048576) (hs : ∀ g ∈ rows, g.s.size ≤ maxLen) :
    Calls Tryz.prog 7 #[.agg #[.slice (some ad) rows.length c], .agg (ac a).toArray, .int .i64 n] w (IntsOk w (simL rows a n) (simOk rows a n)) := by
  have KV := Lib.hid (fun (w' : World) (hb : Below w.heap.size w w') => l16Good_any (some ad) c rows w' (hr.below hb) hl hs)
  have KA := Lib.hid (fun w => l5GoodC a w)
  have KN := Lib.hid (fun w => l1In_any n 1 12 w)
  have HH := Lib.hid hr
  have hR0 : ((w.alloc (.cells #[.slice (some ad) rows.length c] 37)).alloc (.cells (ac a).toArray 42)).heap[w.heap.size]? = some (.cells #[.slice (some ad) rows.length c] 37 (0, 0)) := heap_keepA (heap_hit _ _ _ rfl) _
  have hF0 : ((w.alloc (.cells #[.slice (some ad) rows.length c] 37)).alloc (.cells (ac a).toArray 42)).heap[w.heap.size + 1]? = some (.cells (ac a).toArray 42 (0, 0)) := heap_hit _ _ _ (by simp)
  have hT0 : Below w.heap.size w ((w.alloc (.cells #[.slice (some ad) rows.length c] 37)).alloc (.cells (ac a).toArray 42)) := Below_al (Below_al (Below.refl _ _) _) _
  have cR := cell_of hR0 0
  clear hs hr
  cases q : regOk rows
  · rw [simOk_no1 (a := a) (n := n) q, simL_no (simOk_no1 (a := a) (n := n) q)]
    rw [q] at KV
    clear q KA KN
    go_enter Tryz.func7, Tryz.ntmps7
    go_wp2_with fail
    refine (KV.out _ hT0).mono ?_
    rintro e w1 ⟨rfl, hb1⟩
    replace hT0 := Below_then hT0 hb1
    replace hR0 := heap_keepB hR0 hb1
    replace hF0 := heap_keepB hF0 hb1
    clear hb1
    replace cR := cell_of hR0 0
    clear cR hR0 hF0
    have hO9 : OwnI (w1.alloc (.cells #[] 3)) w.heap.size 3 (.slice (some ⟨w1.heap.size, 0, none⟩) 0 0) [] := OwnI.none0 _ _ _ rfl hT0.size
    have hT9 := Below_al hT0 (.cells #[] 3)
    go_wp2
    go_ret2
    exact ⟨_, rfl, hO9, hT9⟩
  · rw [q] at KV
    cases q2 : armsOk a
    · rw [simOk_no2 (rows := rows) (n := n) q2, simL_no (simOk_no2 (rows := rows) (n := n) q2)]
      rw [q2] at KA
      clear q q2 KN
      go_enter Tryz.func7, Tryz.ntmps7
      go_wp2_with fail
      refine (KV.out _ hT0).mono ?_
      rintro e w1 ⟨rfl, hb1⟩
      replace hT0 := Below_then hT0 hb1
      replace hR0 := heap_keepB hR0 hb1
      replace hF0 := heap_keepB hF0 hb1
      clear hb1
      replace cR := cell_of hR0 0
      go_wp2_with (first | (refine ldAg _ rfl (by kernel_rfl) _ _ rfl a (rangeAt_blk hF0) ?_) | (refine ldA rfl _ rfl _ _ rfl a (rangeAt_blk hF0) ?_) | fail)
      refine (KA.out _).mono ?_
      rintro e w2 ⟨rfl, hb1⟩
      replace hT0 := Below_then hT0 hb1
      replace hR0 := heap_keepB hR0 hb1
      replace hF0 := heap_keepB hF0 hb1
      clear hb1
      replace cR := cell_of hR0 0
      clear cR hR0 hF0
      have hO9 : OwnI (w2.alloc (.cells #[] 3)) w.heap.size 3 (.slice (some ⟨w2.heap.size, 0, none⟩) 0 0) [] := OwnI.none0 _ _ _ rfl hT0.size
      have hT9 := Below_al hT0 (.cells #[] 3)
      go_wp2
      go_ret2
      exact ⟨_, rfl, hO9, hT9⟩
    · rw [q2] at KA
      cases q3 : decide (1 ≤ n ∧ n ≤ 12)
      · rw [simOk_no3 (rows := rows) (a := a) q3, simL_no (simOk_no3 (rows := rows) (a := a) q3)]
        rw [q3] at KN
        clear q q2 q3
        go_enter Tryz.func7, Tryz.ntmps7
        go_wp2_with fail
        refine (KV.out _ hT0).mono ?_
        rintro e w1 ⟨rfl, hb1⟩
        replace hT0 := Below_then hT0 hb1
        replace hR0 := heap_keepB hR0 hb1
        replace hF0 := heap_keepB hF0 hb1
        clear hb1
        replace cR := cell_of hR0 0
        go_wp2_with (first | (refine ldAg _ rfl (by kernel_rfl) _ _ rfl a (rangeAt_blk hF0) ?_) | (refine ldA rfl _ rfl _ _ rfl a (rangeAt_blk hF0) ?_) | fail)
        refine (KA.out _).mono ?_
        rintro e w2 ⟨rfl, hb1⟩
        replace hT0 := Below_then hT0 hb1
        replace hR0 := heap_keepB hR0 hb1
        replace hF0 := heap_keepB hF0 hb1
        clear hb1
        replace cR := cell_of hR0 0
        go_wp2_with fail
        refine (KN.out _).mono ?_
        rintro e w3 ⟨rfl, rfl⟩
        clear cR hR0 hF0
        have hO9 : OwnI (w2.alloc (.cells #[] 3)) w.heap.size 3 (.slice (some ⟨w2.heap.size, 0, none⟩) 0 0) [] := OwnI.none0 _ _ _ rfl hT0.size
        have hT9 := Below_al hT0 (.cells #[] 3)
        go_wp2
        go_ret2
        exact ⟨_, rfl, hO9, hT9⟩
      · rw [q3] at KN
        have e0 : simOk rows a n = true := by unfold simOk; rw [q, q2, q3]; rfl
        have e1 : simL rows a n = (rkN rows (featL a)).take (min n.toNat (rkN rows (featL a)).length) := by unfold simL; rw [e0]; rfl
        rw [e0, e1]
        have HQ := Lib.hid q
        have hr12 := regOk_few' q
        have KF := Lib.hid (fun w => l17Features_any a q2 w)
        have hfl := featL_len a
        obtain ⟨n1, n12⟩ := of_decide_eq_true q3
        clear q q2 q3 e0 e1
        go_enter Tryz.func7, Tryz.ntmps7
        go_wp2_with fail
        refine (KV.out _ hT0).mono ?_
        rintro e w1 ⟨rfl, hb1⟩
        replace hT0 := Below_then hT0 hb1
        replace hR0 := heap_keepB hR0 hb1
        replace hF0 := heap_keepB hF0 hb1
        clear hb1
        replace cR := cell_of hR0 0
        go_wp2_with (first | (refine ldAg _ rfl (by kernel_rfl) _ _ rfl a (rangeAt_blk hF0) ?_) | (refine ldA rfl _ rfl _ _ rfl a (rangeAt_blk hF0) ?_) | fail)
        refine (KA.out _).mono ?_
        rintro e w2 ⟨rfl, hb1⟩
        replace hT0 := Below_then hT0 hb1
        replace hR0 := heap_keepB hR0 hb1
        replace hF0 := heap_keepB hF0 hb1
        clear hb1
        replace cR := cell_of hR0 0
        go_wp2_with fail
        refine (KN.out _).mono ?_
        rintro e w3 ⟨rfl, rfl⟩
        have hA3 := rangeAt_blk hF0
        go_wp2_with fail
        refine wp_region_noPanic ?_
        refine wp_region_held_drew (S := (fun w' => w'.cell? ⟨w.heap.size, 0, none⟩ = some (.slice (some ad) rows.length c : Value) ∧ w'.rangeAt (w.heap.size + 1) 0 (ac a) ∧ Below w2.heap.size w2 w')) (by kernel_rfl) ⟨cR, hA3, (Below.refl _ _).drew⟩ (fun hHeld => ?_)
        refine wpAnyH_take (i := 0) (oi := _) (v := ?_) rfl (by kernel_rfl) (by kernel_rfl) (by kernel_rfl) (fun _ _ _ h => h) (Or.inl ⟨by rfl, ?_⟩) (by assumption) ?_
        rotate_left
        · intro w hSw; (try dsimp only at hSw); first | (go_simp; done) | (go_simp; with_reducible rfl)
        simp only [Act.put, List.getElem_toArray, List.getElem_cons_succ, List.getElem_cons_zero, List.setIfInBounds_toArray, List.set_cons_zero, List.set_cons_succ]
        refine wpAnyH_take (i := 1) (oi := _) (v := _) rfl ?g1_1 ?g2_1 ?g3_1 (fun _ _ _ h => h) (yieldsIf_load_mid ?g4_1 _ _ rfl (w.heap.size + 1) ?oo_1 ?g5_1 (ac a) _ ?g6_1 Tryz.underlying42 rfl (info_ac a)) ?g7_1 ?_
        case g5_1 => rfl
        case g1_1 => kernel_rfl
        case g2_1 => kernel_rfl
        case g3_1 => kernel_rfl
        case g6_1 => exact (fun _ h => h.2.1)
        case g4_1 => kernel_rfl
        case g7_1 => assumption
        simp only [Act.put, List.getElem_toArray, List.getElem_cons_succ, List.getElem_cons_zero, List.setIfInBounds_toArray, List.set_cons_zero, List.set_cons_succ]
        refine wpAnyH_ready (rs := [2]) (by kernel_rfl) (by simp) ?_
        refine AllReadyH.cons (o := _) rfl (fun K hK => ?_) AllReadyH.nil
        go_simp
        refine (KF.out _).mono ?_
        rintro e y5 ⟨v0, rfl, hO5, hb5⟩
        obtain ⟨fA, fc, rfl, hfr⟩ := hO5.form
        go_wp2_with fail
        refine hK.out _ _ ⟨keep_cell hHeld.1 hb5, rangeAt_below hHeld.2.1 hb5, Below_then hHeld.2.2 hb5⟩ (fun hHeld => ?_)
        clear hK K
        try simp only [Act.put, List.getElem_toArray, List.getElem_cons_succ, List.getElem_cons_zero, List.setIfInBounds_toArray, List.set_cons_zero, List.set_cons_succ]
        refine wpAnyH_ready (rs := [3]) (by kernel_rfl) (by simp) ?_
        refine AllReadyH.cons (o := _) rfl (fun K hK => ?_) AllReadyH.nil
        go_simp
        refine (l17Rank_any ad c rows fA fc (featL a) _ (HH.out.below (Below_then hT0 hHeld.2.2)) (by omega) (by omega) hfr (fun g hg => regOk_mem HQ.out hg)).mono ?_
        rintro e w6 ⟨u, v, rfl, h2, hb6⟩
        have hcu := OwnI.base h2.fst (B' := w.heap.size) (Below_then hT0 hHeld.2.2).size
        go_wp2_with fail
        refine hK.out _ _ ⟨keep_cell hHeld.1 hb6, rangeAt_below hHeld.2.1 hb6, Below_then hHeld.2.2 hb6⟩ (fun hHeld => ?_)
        clear hK K
        try simp only [Act.put, List.getElem_toArray, List.getElem_cons_succ, List.getElem_cons_zero, List.setIfInBounds_toArray, List.set_cons_zero, List.set_cons_succ]
        refine wpAnyH_take (i := 4) (oi := _) (v := ?_) rfl (by kernel_rfl) (by kernel_rfl) (by kernel_rfl) (fun _ _ _ h => h) (Or.inl ⟨by rfl, ?_⟩) (by assumption) ?_
        rotate_left
        · intro w hSw; clear hSw; first | (go_simp; done) | (go_simp; with_reducible rfl)
        simp only [Act.put, List.getElem_toArray, List.getElem_cons_succ, List.getElem_cons_zero, List.setIfInBounds_toArray, List.set_cons_zero, List.set_cons_succ]
        refine wpAnyH_take (i := 5) (oi := _) (v := ?_) rfl (by kernel_rfl) (by kernel_rfl) (by kernel_rfl) (fun _ _ _ h => h) (Or.inl ⟨by rfl, ?_⟩) (by assumption) ?_
        rotate_left
        · intro w hSw; clear hSw; first | (go_simp; done) | (go_simp; with_reducible rfl)
        simp only [Act.put, List.getElem_toArray, List.getElem_cons_succ, List.getElem_cons_zero, List.setIfInBounds_toArray, List.set_cons_zero, List.set_cons_succ]
        refine wpAnyH_take (i := 6) (oi := _) (v := ?_) rfl (by kernel_rfl) (by kernel_rfl) (by kernel_rfl) (fun _ _ _ h => h) (Or.inl ⟨by rfl, ?_⟩) (by assumption) ?_
        rotate_left
        · intro w hSw; clear hSw; first | (go_simp; done) | (go_simp; with_reducible rfl)
        simp only [Act.put, List.getElem_toArray, List.getElem_cons_succ, List.getElem_cons_zero, List.setIfInBounds_toArray, List.set_cons_zero, List.set_cons_succ]
        refine wpAnyH_take (i := 7) (oi := _) (v := ?_) rfl (by kernel_rfl) (by kernel_rfl) (by kernel_rfl) (fun _ _ _ h => h) (Or.inl ⟨by rfl, ?_⟩) (by assumption) ?_
        rotate_left
        · intro w hSw; clear hSw; first | (go_simp; done) | (go_simp; with_reducible rfl)
        simp only [Act.put, List.getElem_toArray, List.getElem_cons_succ, List.getElem_cons_zero, List.setIfInBounds_toArray, List.set_cons_zero, List.set_cons_succ]
        refine wpAnyH_take (i := 8) (oi := _) (v := ?_) rfl (by kernel_rfl) (by kernel_rfl) (by kernel_rfl) (fun _ _ _ h => h) (Or.inl ⟨by rfl, ?_⟩) (by assumption) ?_
        rotate_left
        · intro w hSw; clear hSw; first | (go_simp; done) | (go_simp; with_reducible rfl)
        simp only [Act.put, List.getElem_toArray, List.getElem_cons_succ, List.getElem_cons_zero, List.setIfInBounds_toArray, List.set_cons_zero, List.set_cons_succ]
        have hT7 := Below_then hT0 hHeld.2.2
        refine wpAnyH_done (by kernel_rfl) ?_ _
        refine NoPanic.normal ?_
        clear hHeld h2 hb6 hb5 hO5 hfr hA3 cR hR0 hF0 hT0
        replace hcu : OwnI w6 w.heap.size 3 u (rkN rows (featL a)) := hcu
        obtain ⟨uA, uc, rfl, -⟩ := hcu.form
        have hcap9 := hcu.cap
        have hle := rkN_le rows (featL a) (by omega) (by omega)
        obtain ⟨xs, hxs⟩ : ∃ xs, xs = rkN rows (featL a) := ⟨_, rfl⟩
        rw [← hxs] at hcu hcap9 hle ⊢
        have HXS := Lib.hid hxs
        clear hxs
        obtain ⟨m, hm⟩ : ∃ m : Nat, m = min n.toNat xs.length := ⟨_, rfl⟩
        have hmi : min n (xs.length : Int) = (m : Int) := by omega
        have hmle : m ≤ xs.length := by omega
        have hO9 := hcu.take m hmle
        rw [show xs.take m = (rkN rows (featL a)).take (min n.toNat (rkN rows (featL a)).length) by rw [← HXS.out, hm]] at hO9
        have sa1 : (m : Int) ≤ (uc : Int) := by omega
        have sa3 : (0 : Int) ≤ (m : Int) := by omega
        have KM := Lib.hid (fun w => l1Least_any n (xs.length : Int) w)
        rw [hmi] at KM
        clear hm hmle hcap9 hmi
        go_wp2_with fail
        refine (KM.out _).mono ?_
        rintro e w7 ⟨rfl, rfl⟩
        go_wp2
        go_ret2
        exact ⟨_, rfl, hO9, hT7⟩
end Go.Proofs.YtmjgogklalploaaGreatDoor
namespace Go.Proofs.YtmjgogklalploaaGreatDoor.fnExactSimilarGrants
open Go.ChangeShapes Go.WideShapes Go.ChangeAt Go.RowKit
set_option linter.unusedVariables false

theorem eqI {A A' : Option Addr} {c c' B B' : Nat} (xs : List Int) (w : World) (h1 : OwnI w B 3 (.slice A xs.length c) xs) (h2 : OwnI w B' 3 (.slice A' xs.length c') xs) (hx : xs.length ≤ 1048576) :
    Calls Tryz.prog 11 #[.slice A xs.length c, .slice A' xs.length c'] w fun e w' => e = .returned (.bool true) ∧ Below w.heap.size w w' := by
  obtain ⟨A1, c1, e1, r1⟩ := h1.form
  obtain ⟨A2, c2, e2, r2⟩ := h2.form
  injection e1 with e1 _ e1'
  injection e2 with e2 _ e2'
  subst e1 e1' e2 e2'
  exact (eqIntS_any _ _ _ _ xs xs w r1 r2 (by omega) (by omega)).mono fun _ _ ⟨he, hw⟩ => ⟨by rw [he]; simp, hw⟩
theorem heldI {A : Option Addr} {c B : Nat} (xs : List Int) (w : World) (h : OwnI w B 3 (.slice A xs.length c) (marks 1 xs.length)) (hx : xs.length ≤ 1048576) :
    Calls Tryz.prog 15 #[.slice A xs.length c, .int .i64 1] w fun e w' => e = .returned (.int .i64 (1 + xs.length)) ∧ Below w.heap.size w w' := by
  obtain ⟨A1, c1, e1, r1⟩ := h.form
  rw [marks_len] at e1
  injection e1 with e1 _ e1'
  subst e1 e1'
  have := heldIntS_any A c (marks 1 xs.length) 1 w r1 (by rw [marks_len]; omega) (by omega) (by omega)
  rw [heldR_marks, marks_len] at this
  exact this
set_option maxHeartbeats 8000000 in
theorem walk (w : World) (A0 : Option Addr) (c0 : Nat) (z0 : List GrantD) (u0 : RdR 18 w A0 (gcs z0)) (l0 : z0.length ≤ maxLen) (s0 : ∀ g ∈ z0, g.s.size ≤ maxLen) (a : ArmsD) (wa : ∀ z ∈ [a.d, a.l, a.p, a.q, a.o, a.li, a.t, a.c1, a.k1, a.a1, a.t1, a.c2, a.k2, a.a2, a.t2], (Lit.int .i64 z).wf = true) (n : Int) (wn : (Lit.int .i64 n).wf = true) :
    Calls Tryz.prog 3 #[.agg #[.slice A0 z0.length c0], .agg (ac a).toArray, .int .i64 n] w fun e w' => e = .returned (.bool true) ∧ Below w.heap.size w w' := by
  clear wa wn
  go_enter Tryz.func3, Tryz.ntmps3
  go_wp2_with fail
  refine (szRegister_any A0 c0 z0 1048576 _ (u0.below (by (repeat (first | exact Below.refl _ _ | assumption | refine Below_al ?_ _ | refine Below.drew ?_ | refine Below_then ?_ (by assumption) | refine Below.setCell ?_ (by first | omega | (simp; done) | (simp; omega)) _)))) (by omega) (by omega) l0 s0).mono ?_
  rintro e y0 ⟨y, rfl, hy, hy0⟩
  have hT : Below w.heap.size w y0 := by (repeat (first | exact Below.refl _ _ | assumption | refine Below_al ?_ _ | refine Below.drew ?_ | refine Below_then ?_ (by assumption) | refine Below.setCell ?_ (by first | omega | (simp; done) | (simp; omega)) _))
  have hF : y0.heap[w.heap.size]? = some (.cells #[.slice A0 z0.length c0] 24 (0, 0)) := heap_keepB (heap_keepA (heap_hit _ _ _ rfl) _) hy0
  have hG : y0.heap[w.heap.size + 1]? = some (.cells (ac a).toArray 30 (0, 0)) := heap_keepB (heap_hit _ _ _ (by simp)) hy0
  clear hy0
  rcases hy with rfl | ⟨q0, q1, q2⟩
  · go_wp2
    go_ret
    exact ⟨rfl, hT⟩
  have HS := Lib.hid q2
  have hyn : ¬ y < 0 := by omega
  obtain ⟨zs, ok, hzl, KS, KI⟩ : ∃ (zs : List Int) (ok : Bool), zs.length ≤ 1048576 ∧ (∀ (ad : Addr) (w : World), RdR 18 w (some ad) (gcs z0) → Calls Tryz.prog 7 #[.agg #[.slice (some ad) z0.length z0.length], .agg (ac a).toArray, .int .i64 n] w (IntsOk w zs ok)) ∧ (∀ (ad : Addr) (w : World), RdR 18 w (some ad) (gcs z0) → Calls Tryz.prog 10 #[.agg #[.slice (some ad) z0.length z0.length], .agg (ac a).toArray, .int .i64 n] w (IntsOk w zs ok)) := ⟨_, _, Nat.le_trans (simL_le z0 a n) (by omega), fun ad w h => specSim_any ad z0.length z0 a n w h HS.out s0, fun ad w h => implSim_any ad z0.length z0 a n w h HS.out s0 (Nat.le_refl _) l0⟩
  have KS' := Lib.hid KS
  have KI' := Lib.hid KI
  have hM : ¬ (1 + (zs.length : Int) < 0) := by omega
  have hM2 : ¬ (1 + 18 * (z0.length : Int) < 0) := by omega
  clear KS KI l0 s0 q0 q1 q2
  cases ok
  all_goals
    have cF := cell_of hF 0
    have hR := rangeAt_blk hG
    go_wp2_with fail
    refine wp_region_noPanic ?_
    refine wp_region_held_drew (S := (fun w' => w'.cell? ⟨w.heap.size, 0, none⟩ = some (.slice A0 z0.length c0 : Value) ∧ w'.rangeAt (w.heap.size + 1) 0 (ac a) ∧ Below y0.heap.size y0 w')) (by kernel_rfl) ⟨cF, hR, (Below.refl _ _).drew⟩ (fun hHeld => ?_)
    refine wpAnyH_take (i := 0) (oi := _) (v := ?_) rfl (by kernel_rfl) (by kernel_rfl) (by kernel_rfl) (fun _ _ _ h => h) (Or.inl ⟨by rfl, ?_⟩) (by assumption) ?_
    rotate_left
    · intro w hSw; (try dsimp only at hSw); first | (go_simp; done) | (go_simp; with_reducible rfl)
    simp only [Act.put, List.getElem_toArray, List.getElem_cons_succ, List.getElem_cons_zero, List.setIfInBounds_toArray, List.set_cons_zero, List.set_cons_succ]
    refine wpAnyH_take (i := 2) (oi := _) (v := _) rfl ?g1_15 ?g2_15 ?g3_15 (fun _ _ _ h => h) (yieldsIf_load_mid ?g4_15 _ _ rfl (w.heap.size + 1) ?oo_15 ?g5_15 (ac a) _ ?g6_15 Tryz.underlying30 rfl (info_acL a)) ?g7_15 ?_
    case g5_15 => rfl
    case g1_15 => kernel_rfl
    case g2_15 => kernel_rfl
    case g3_15 => kernel_rfl
    case g6_15 => exact (fun _ h => h.2.1)
    case g4_15 => kernel_rfl
    case g7_15 => assumption
    simp only [Act.put, List.getElem_toArray, List.getElem_cons_succ, List.getElem_cons_zero, List.setIfInBounds_toArray, List.set_cons_zero, List.set_cons_succ]
    refine wpAnyH_take (i := 4) (oi := _) (v := ?_) rfl (by kernel_rfl) (by kernel_rfl) (by kernel_rfl) (fun _ _ _ h => h) (Or.inl ⟨by rfl, ?_⟩) (by assumption) ?_
    rotate_left
    · intro w hSw; clear hSw; first | (go_simp; done) | (go_simp; with_reducible rfl)
    simp only [Act.put, List.getElem_toArray, List.getElem_cons_succ, List.getElem_cons_zero, List.setIfInBounds_toArray, List.set_cons_zero, List.set_cons_succ]
    refine wpAnyH_ready (rs := [1]) (by kernel_rfl) (by simp) ?_
    refine AllReadyH.cons (o := _) rfl (fun K hK => ?_) AllReadyH.nil
    go_simp
    refine (toRegister_any A0 c0 z0 _ (u0.below (Below_then hT hHeld.2.2)) HS.out).mono ?_
    rintro e s1 ⟨sg, rfl, so, sh1⟩
    go_wp2_with fail
    refine hK.out _ _ ⟨keep_cell hHeld.1 sh1, rangeAt_below hHeld.2.1 sh1, Below_then hHeld.2.2 sh1⟩ (fun hHeld => ?_)
    clear hK K
    try simp only [Act.put, List.getElem_toArray, List.getElem_cons_succ, List.getElem_cons_zero, List.setIfInBounds_toArray, List.set_cons_zero, List.set_cons_succ]
    refine wpAnyH_ready (rs := [3]) (by kernel_rfl) (by simp) ?_
    refine AllReadyH.cons (o := _) rfl (fun K hK => ?_) AllReadyH.nil
    go_simp
    refine (toArmsC a _).mono ?_
    rintro e s2 ⟨rfl, sh2⟩
    go_wp2_with fail
    refine hK.out _ _ ⟨keep_cell hHeld.1 sh2, rangeAt_below hHeld.2.1 sh2, Below_then hHeld.2.2 sh2⟩ (fun hHeld => ?_)
    clear hK K
    try simp only [Act.put, List.getElem_toArray, List.getElem_cons_succ, List.getElem_cons_zero, List.setIfInBounds_toArray, List.set_cons_zero, List.set_cons_succ]
    refine wpAnyH_ready (rs := [5]) (by kernel_rfl) (by simp) ?_
    refine AllReadyH.cons (o := _) rfl (fun K hK => ?_) AllReadyH.nil
    go_simp
    refine (KS'.out _ _ (so.rd.below sh2)).mono ?_
    rintro e y2 ⟨sv, rfl, hoW, sh3⟩
    obtain ⟨sA, sc, rfl, -⟩ := hoW.form
    go_wp2_with fail
    refine hK.out _ _ ⟨keep_cell hHeld.1 sh3, rangeAt_below hHeld.2.1 sh3, Below_then hHeld.2.2 sh3⟩ (fun hHeld => ?_)
    clear hK K
    try simp only [Act.put, List.getElem_toArray, List.getElem_cons_succ, List.getElem_cons_zero, List.setIfInBounds_toArray, List.set_cons_zero, List.set_cons_succ]
    refine wpAnyH_take (i := 6) (oi := _) (v := ?_) rfl (by kernel_rfl) (by kernel_rfl) (by kernel_rfl) (fun _ _ _ h => h) (Or.inl ⟨by rfl, ?_⟩) (by assumption) ?_
    rotate_left
    · intro w hSw; clear hSw; first | (go_simp; done) | (go_simp; with_reducible rfl)
    simp only [Act.put, List.getElem_toArray, List.getElem_cons_succ, List.getElem_cons_zero, List.setIfInBounds_toArray, List.set_cons_zero, List.set_cons_succ]
    refine wpAnyH_take (i := 7) (oi := _) (v := ?_) rfl (by kernel_rfl) (by kernel_rfl) (by kernel_rfl) (fun _ _ _ h => h) (Or.inl ⟨by rfl, ?_⟩) (by assumption) ?_
    rotate_left
    · intro w hSw; clear hSw; first | (go_simp; done) | (go_simp; with_reducible rfl)
    simp only [Act.put, List.getElem_toArray, List.getElem_cons_succ, List.getElem_cons_zero, List.setIfInBounds_toArray, List.set_cons_zero, List.set_cons_succ]
    refine wpAnyH_take (i := 8) (oi := _) (v := ?_) rfl (by kernel_rfl) (by kernel_rfl) (by kernel_rfl) (fun _ _ _ h => h) (Or.inl ⟨by rfl, ?_⟩) (by assumption) ?_
    rotate_left
    · intro w hSw; clear hSw; first | (go_simp; done) | (go_simp; with_reducible rfl)
    simp only [Act.put, List.getElem_toArray, List.getElem_cons_succ, List.getElem_cons_zero, List.setIfInBounds_toArray, List.set_cons_zero, List.set_cons_succ]
    refine wpAnyH_take (i := 9) (oi := _) (v := ?_) rfl (by kernel_rfl) (by kernel_rfl) (by kernel_rfl) (fun _ _ _ h => h) (Or.inl ⟨by rfl, ?_⟩) (by assumption) ?_
    rotate_left
    · intro w hSw; clear hSw; first | (go_simp; done) | (go_simp; with_reducible rfl)
    simp only [Act.put, List.getElem_toArray, List.getElem_cons_succ, List.getElem_cons_zero, List.setIfInBounds_toArray, List.set_cons_zero, List.set_cons_succ]
    refine wpAnyH_take (i := 10) (oi := _) (v := ?_) rfl (by kernel_rfl) (by kernel_rfl) (by kernel_rfl) (fun _ _ _ h => h) (Or.inl ⟨by rfl, ?_⟩) (by assumption) ?_
    rotate_left
    · intro w hSw; clear hSw; first | (go_simp; done) | (go_simp; with_reducible rfl)
    simp only [Act.put, List.getElem_toArray, List.getElem_cons_succ, List.getElem_cons_zero, List.setIfInBounds_toArray, List.set_cons_zero, List.set_cons_succ]
    refine wpAnyH_done (by kernel_rfl) ?_ _
    refine NoPanic.normal ?_
    have sb := hHeld.2.2
    have hT := Below_then hT sb
    have hF := heap_keepB hF sb
    have hG := heap_keepB hG sb
    have cF := cell_of hF 0
    have hWl := hoW.lt
    have hsz := hT.size
    have hFs := heap_lt hF
    have hGs := heap_lt hG
    clear hHeld sb sh1 sh2 sh3 so hR
    go_wp2_with fail
    refine (toRegister_any A0 c0 z0 _ (u0.below hT) HS.out).mono ?_
    rintro e y3 ⟨g2, rfl, hoX, hy3⟩
    have hgl := hoX.low
    have hg2 := heap_lt hoX.blk
    have hWX : ∀ b, Value.ownBlock (.slice sA zs.length sc) = some b → b ≠ g2 := fun b hb e => by
      have := (hWl b hb).2
      omega
    have hT := Below_al (Below_then hT hy3) (.cells #[.slice (some ⟨g2, 0, none⟩) z0.length z0.length] 37 (0, 0))
    have hF := heap_keepA (heap_keepB hF hy3) (.cells #[.slice (some ⟨g2, 0, none⟩) z0.length z0.length] 37 (0, 0))
    have hG := heap_keepA (heap_keepB hG hy3) (.cells #[.slice (some ⟨g2, 0, none⟩) z0.length z0.length] 37 (0, 0))
    have hoW := (hoW.below hy3).alloc (.cells #[.slice (some ⟨g2, 0, none⟩) z0.length z0.length] 37 (0, 0))
    have hX : (y3.alloc (.cells #[.slice (some ⟨g2, 0, none⟩) z0.length z0.length] 37 (0, 0))).heap[y3.heap.size]? = some (.cells #[.slice (some ⟨g2, 0, none⟩) z0.length z0.length] 37 (0, 0)) := heap_hit _ _ _ rfl
    have hoX := hoX.below (Below_al (Below.refl _ _) (.cells #[.slice (some ⟨g2, 0, none⟩) z0.length z0.length] 37 (0, 0)))
    have cX := cell_of hX 0
    have hbl : w.heap.size + 1 < y3.heap.size ∧ g2 < y3.heap.size := by have := hy3.size; omega
    have HWX := Lib.hid hWX
    clear hy3 cF hWl hWX
    have hR := rangeAt_blk hG
    have hgs := heap_lt hX
    go_wp2_with fail
    refine wp_region_noPanic ?_
    refine wp_region_held_drew (S := (fun w' => w'.cell? ⟨y3.heap.size, 0, none⟩ = some (.slice (some ⟨g2, 0, none⟩) z0.length z0.length : Value) ∧ w'.rangeAt (w.heap.size + 1) 0 (ac a) ∧ Below (y3.alloc (.cells #[.slice (some ⟨g2, 0, none⟩) z0.length z0.length] 37 (0, 0))).heap.size (y3.alloc (.cells #[.slice (some ⟨g2, 0, none⟩) z0.length z0.length] 37 (0, 0))) w')) (by kernel_rfl) ⟨cX, hR, (Below.refl _ _).drew⟩ (fun hHeld => ?_)
    refine wpAnyH_take (i := 0) (oi := _) (v := ?_) rfl (by kernel_rfl) (by kernel_rfl) (by kernel_rfl) (fun _ _ _ h => h) (Or.inl ⟨by rfl, ?_⟩) (by assumption) ?_
    rotate_left
    · intro w hSw; (try dsimp only at hSw); first | (go_simp; done) | (go_simp; with_reducible rfl)
    simp only [Act.put, List.getElem_toArray, List.getElem_cons_succ, List.getElem_cons_zero, List.setIfInBounds_toArray, List.set_cons_zero, List.set_cons_succ]
    refine wpAnyH_take (i := 1) (oi := _) (v := _) rfl ?g1_16 ?g2_16 ?g3_16 (fun _ _ _ h => h) (yieldsIf_load_mid ?g4_16 _ _ rfl (w.heap.size + 1) ?oo_16 ?g5_16 (ac a) _ ?g6_16 Tryz.underlying30 rfl (info_acL a)) ?g7_16 ?_
    case g5_16 => rfl
    case g1_16 => kernel_rfl
    case g2_16 => kernel_rfl
    case g3_16 => kernel_rfl
    case g6_16 => exact (fun _ h => h.2.1)
    case g4_16 => kernel_rfl
    case g7_16 => assumption
    simp only [Act.put, List.getElem_toArray, List.getElem_cons_succ, List.getElem_cons_zero, List.setIfInBounds_toArray, List.set_cons_zero, List.set_cons_succ]
    refine wpAnyH_take (i := 3) (oi := _) (v := ?_) rfl (by kernel_rfl) (by kernel_rfl) (by kernel_rfl) (fun _ _ _ h => h) (Or.inl ⟨by rfl, ?_⟩) (by assumption) ?_
    rotate_left
    · intro w hSw; clear hSw; first | (go_simp; done) | (go_simp; with_reducible rfl)
    simp only [Act.put, List.getElem_toArray, List.getElem_cons_succ, List.getElem_cons_zero, List.setIfInBounds_toArray, List.set_cons_zero, List.set_cons_succ]
    refine wpAnyH_ready (rs := [2]) (by kernel_rfl) (by simp) ?_
    refine AllReadyH.cons (o := _) rfl (fun K hK => ?_) AllReadyH.nil
    go_simp
    refine (toArmsC a _).mono ?_
    rintro e p2 ⟨rfl, ph2⟩
    go_wp2_with fail
    refine hK.out _ _ ⟨keep_cell hHeld.1 ph2, rangeAt_below hHeld.2.1 ph2, Below_then hHeld.2.2 ph2⟩ (fun hHeld => ?_)
    clear hK K
    try simp only [Act.put, List.getElem_toArray, List.getElem_cons_succ, List.getElem_cons_zero, List.setIfInBounds_toArray, List.set_cons_zero, List.set_cons_succ]
    have hp2 := hHeld.2.2
    have hoW := hoW.below hp2
    refine wpAnyH_ready (rs := [4]) (by kernel_rfl) (by simp) ?_
    refine AllReadyH.cons (o := _) rfl (fun K hK => ?_) AllReadyH.nil
    go_simp
    refine (KI'.out _ _ (hoX.rd.below hHeld.2.2)).mono ?_
    rintro e y4 ⟨gv, rfl, hoG, hy4⟩
    have hap := hoW.apart hoG (Nat.le_refl _)
    have hGlow := fun k hk => (hoG.lt k hk).1
    have hp2s := hp2.size
    obtain ⟨gA, gc', rfl, -⟩ := hoG.form
    go_wp2_with fail
    refine hK.out _ _ ⟨keep_cell hHeld.1 hy4, rangeAt_below hHeld.2.1 hy4, Below_then hHeld.2.2 hy4⟩ (fun hHeld => ?_)
    clear hK K
    try simp only [Act.put, List.getElem_toArray, List.getElem_cons_succ, List.getElem_cons_zero, List.setIfInBounds_toArray, List.set_cons_zero, List.set_cons_succ]
    refine wpAnyH_take (i := 5) (oi := _) (v := ?_) rfl (by kernel_rfl) (by kernel_rfl) (by kernel_rfl) (fun _ _ _ h => h) (Or.inl ⟨by rfl, ?_⟩) (by assumption) ?_
    rotate_left
    · intro w hSw; clear hSw; first | (go_simp; done) | (go_simp; with_reducible rfl)
    simp only [Act.put, List.getElem_toArray, List.getElem_cons_succ, List.getElem_cons_zero, List.setIfInBounds_toArray, List.set_cons_zero, List.set_cons_succ]
    refine wpAnyH_take (i := 6) (oi := _) (v := ?_) rfl (by kernel_rfl) (by kernel_rfl) (by kernel_rfl) (fun _ _ _ h => h) (Or.inl ⟨by rfl, ?_⟩) (by assumption) ?_
    rotate_left
    · intro w hSw; clear hSw; first | (go_simp; done) | (go_simp; with_reducible rfl)
    simp only [Act.put, List.getElem_toArray, List.getElem_cons_succ, List.getElem_cons_zero, List.setIfInBounds_toArray, List.set_cons_zero, List.set_cons_succ]
    refine wpAnyH_take (i := 7) (oi := _) (v := ?_) rfl (by kernel_rfl) (by kernel_rfl) (by kernel_rfl) (fun _ _ _ h => h) (Or.inl ⟨by rfl, ?_⟩) (by assumption) ?_
    rotate_left
    · intro w hSw; clear hSw; first | (go_simp; done) | (go_simp; with_reducible rfl)
    simp only [Act.put, List.getElem_toArray, List.getElem_cons_succ, List.getElem_cons_zero, List.setIfInBounds_toArray, List.set_cons_zero, List.set_cons_succ]
    refine wpAnyH_take (i := 8) (oi := _) (v := ?_) rfl (by kernel_rfl) (by kernel_rfl) (by kernel_rfl) (fun _ _ _ h => h) (Or.inl ⟨by rfl, ?_⟩) (by assumption) ?_
    rotate_left
    · intro w hSw; clear hSw; first | (go_simp; done) | (go_simp; with_reducible rfl)
    simp only [Act.put, List.getElem_toArray, List.getElem_cons_succ, List.getElem_cons_zero, List.setIfInBounds_toArray, List.set_cons_zero, List.set_cons_succ]
    refine wpAnyH_take (i := 9) (oi := _) (v := ?_) rfl (by kernel_rfl) (by kernel_rfl) (by kernel_rfl) (fun _ _ _ h => h) (Or.inl ⟨by rfl, ?_⟩) (by assumption) ?_
    rotate_left
    · intro w hSw; clear hSw; first | (go_simp; done) | (go_simp; with_reducible rfl)
    simp only [Act.put, List.getElem_toArray, List.getElem_cons_succ, List.getElem_cons_zero, List.setIfInBounds_toArray, List.set_cons_zero, List.set_cons_succ]
    refine wpAnyH_done (by kernel_rfl) ?_ _
    refine NoPanic.normal ?_
    have hoW := hoW.below hy4
    replace hy4 := hHeld.2.2
    have hGX : (Value.slice gA zs.length gc').ownBlock ≠ some g2 := fun e => by have := hGlow g2 e; omega
    have hGB : (Value.slice gA zs.length gc').ownBlock ≠ some y3.heap.size := fun e => by have := hGlow _ e; omega
    have hGF : (Value.slice gA zs.length gc').ownBlock ≠ some w.heap.size := fun e => by have := hGlow _ e; omega
    have hGF2 : (Value.slice gA zs.length gc').ownBlock ≠ some (w.heap.size + 1) := fun e => by have := hGlow _ e; omega
    have HGF2 := Lib.hid hGF2
    clear hGF2
    have htop : ∀ k, (Value.slice gA zs.length gc').ownBlock = some k → w.heap.size ≤ k := fun k hk => by have := hGlow k hk; have := hT.size; omega
    have hT := Below_then hT hy4
    have hF := heap_keepB hF hy4
    have hG := heap_keepB hG hy4
    have hX := heap_keepB hX hy4
    have hoX := hoX.below hy4
    have HAP := Lib.hid hap
    have HGX := Lib.hid hGX
    have HGB := Lib.hid hGB
    have HGF := Lib.hid hGF
    have HTOP := Lib.hid htop
    clear hHeld hR hp2 hp2s ph2 hy4 hap hGX hGB hGF htop hGlow cX
    go_wp2_with fail
    refine (eqI zs _ hoG hoW hzl).mono ?_
    rintro e y5 ⟨rfl, hy5⟩
    have hT := Below_then hT hy5
    have hF := heap_keepB hF hy5
    have hG := heap_keepB hG hy5
    have hX := heap_keepB hX hy5
    have hoX := hoX.below hy5
    have hoW := hoW.below hy5
    have hoG := hoG.below hy5
    have cX := cell_of hX 0
    have cF := cell_of hF 0
    clear hy5
    go_wp2_with fail
    refine wp_region_noPanic ?_
    refine wp_region_held_drew (S := (fun w' => w'.cell? ⟨y3.heap.size, 0, none⟩ = some (.slice (some ⟨g2, 0, none⟩) z0.length z0.length : Value) ∧ w'.cell? ⟨w.heap.size, 0, none⟩ = some (.slice A0 z0.length c0 : Value) ∧ Below y5.heap.size y5 w')) (by kernel_rfl) ⟨cX, cF, (Below.refl _ _).drew⟩ (fun hHeld => ?_)
    refine wpAnyH_take (i := 0) (oi := _) (v := ?_) rfl (by kernel_rfl) (by kernel_rfl) (by kernel_rfl) (fun _ _ _ h => h) (Or.inl ⟨by rfl, ?_⟩) (by assumption) ?_
    rotate_left
    · intro w hSw; (try dsimp only at hSw); first | (go_simp; done) | (go_simp; with_reducible rfl)
    simp only [Act.put, List.getElem_toArray, List.getElem_cons_succ, List.getElem_cons_zero, List.setIfInBounds_toArray, List.set_cons_zero, List.set_cons_succ]
    refine wpAnyH_take (i := 1) (oi := _) (v := ?_) rfl (by kernel_rfl) (by kernel_rfl) (by kernel_rfl) (fun _ _ _ h => h) (Or.inl ⟨by rfl, ?_⟩) (by assumption) ?_
    rotate_left
    · intro w hSw; (try dsimp only at hSw); first | (go_simp; done) | (go_simp; with_reducible rfl)
    simp only [Act.put, List.getElem_toArray, List.getElem_cons_succ, List.getElem_cons_zero, List.setIfInBounds_toArray, List.set_cons_zero, List.set_cons_succ]
    refine wpAnyH_ready (rs := [2]) (by kernel_rfl) (by simp) ?_
    refine AllReadyH.cons (o := _) rfl (fun K hK => ?_) AllReadyH.nil
    go_simp
    refine (toRegister_any A0 c0 z0 _ (u0.below (Below_then hT hHeld.2.2)) HS.out).mono ?_
    rintro e v1 ⟨vg, rfl, vo, vh1⟩
    go_wp2_with fail
    refine hK.out _ _ ⟨keep_cell hHeld.1 vh1, keep_cell hHeld.2.1 vh1, Below_then hHeld.2.2 vh1⟩ (fun hHeld => ?_)
    clear hK K
    try simp only [Act.put, List.getElem_toArray, List.getElem_cons_succ, List.getElem_cons_zero, List.setIfInBounds_toArray, List.set_cons_zero, List.set_cons_succ]
    refine wpAnyH_ready (rs := [3]) (by kernel_rfl) (by simp) ?_
    refine AllReadyH.cons (o := _) rfl (fun K hK => ?_) AllReadyH.nil
    go_simp
    refine (eqRegister_same _ _ _ _ z0 _ (hoX.rd.below hHeld.2.2) vo.rd HS.out).mono ?_
    rintro e v2 ⟨rfl, vh2⟩
    go_wp2_with fail
    refine hK.out _ _ ⟨keep_cell hHeld.1 vh2, keep_cell hHeld.2.1 vh2, Below_then hHeld.2.2 vh2⟩ (fun hHeld => ?_)
    clear hK K
    try simp only [Act.put, List.getElem_toArray, List.getElem_cons_succ, List.getElem_cons_zero, List.setIfInBounds_toArray, List.set_cons_zero, List.set_cons_succ]
    refine wpAnyH_take (i := 4) (oi := _) (v := ?_) rfl (by kernel_rfl) (by kernel_rfl) (by kernel_rfl) (fun _ _ _ h => h) (Or.inl ⟨by rfl, ?_⟩) (by assumption) ?_
    rotate_left
    · intro w hSw; clear hSw; first | (go_simp; done) | (go_simp; with_reducible rfl)
    simp only [Act.put, List.getElem_toArray, List.getElem_cons_succ, List.getElem_cons_zero, List.setIfInBounds_toArray, List.set_cons_zero, List.set_cons_succ]
    refine wpAnyH_done (by kernel_rfl) ?_ _
    refine NoPanic.normal ?_

    have hb6 := hHeld.2.2
    have hT := Below_then hT hb6
    have hF := heap_keepB hF hb6
    have hG := heap_keepB hG hb6
    have hX := heap_keepB hX hb6
    have hoX := hoX.below hb6
    have hoW := hoW.below hb6
    have hoG := hoG.below hb6
    have cX := cell_of hX 0
    have hBk := hoX.toBlk
    rw [gcs_len] at hBk
    clear hb6 hHeld cF vh1 vh2 vo
    go_wp2_with fail
    refine (markRegister_any g2 z0.length z0.length 1 _ hBk HS.out (by omega) (by omega)).mono ?_
    rintro e y7 ⟨rfl, hg7⟩
    have hT := hT.grown hg7 hT.size (fun k hk => by injection hk with hk; omega)
    have hF := heap_keepG hF hg7 (fun e => by injection e with e; omega)
    have hG := heap_keepG hG hg7 (fun e => by injection e with e; omega)
    have hoW := hoW.other hg7 (by
      cases e : Value.ownBlock (.slice sA zs.length sc) with
      | none => exact .inl rfl
      | some b => exact .inr fun e2 => HWX.out b e (by injection e2))
    have hoG := hoG.other hg7 (.inr HGX.out)
    clear hg7 hoX hBk hX cX
    go_wp2_with fail
    refine (eqI zs _ hoG hoW hzl).mono ?_
    rintro e y8 ⟨rfl, hy8⟩
    have hT := Below_then hT hy8
    have hF := heap_keepB hF hy8
    have hG := heap_keepB hG hy8
    have hoW := hoW.below hy8
    have hoG := hoG.below hy8
    clear hy8
    go_wp2_with fail
    refine (markIntS_any _ _ zs 1 _ hoG (by omega) (by omega) (by omega)).mono ?_
    rintro e y9 ⟨rfl, hmG, hg9⟩
    have hT := hT.grown hg9 hT.size HTOP.out
    have hF := heap_keepG hF hg9 HGF.out
    have hG := heap_keepG hG hg9 HGF2.out
    have hoW := hoW.other hg9 HAP.out
    clear hg9 hoG
    go_wp2_with fail
    refine (heldI zs _ hmG hzl).mono ?_
    rintro e ya ⟨rfl, hya⟩
    have hT := Below_then hT hya
    have hF := heap_keepB hF hya
    have hG := heap_keepB hG hya
    have hoW := hoW.below hya
    have hmG := hmG.below hya
    have cF := cell_of hF 0
    have hR := rangeAt_blk hG
    clear hya
    go_wp2_with fail
    refine wp_region_noPanic ?_
    refine wp_region_held_drew (S := (fun w' => w'.cell? ⟨w.heap.size, 0, none⟩ = some (.slice A0 z0.length c0 : Value) ∧ w'.rangeAt (w.heap.size + 1) 0 (ac a) ∧ Below ya.heap.size ya w')) (by kernel_rfl) ⟨cF, hR, (Below.refl _ _).drew⟩ (fun hHeld => ?_)
    refine wpAnyH_take (i := 0) (oi := _) (v := ?_) rfl (by kernel_rfl) (by kernel_rfl) (by kernel_rfl) (fun _ _ _ h => h) (Or.inl ⟨by rfl, ?_⟩) (by assumption) ?_
    rotate_left
    · intro w hSw; (try dsimp only at hSw); first | (go_simp; done) | (go_simp; with_reducible rfl)
    simp only [Act.put, List.getElem_toArray, List.getElem_cons_succ, List.getElem_cons_zero, List.setIfInBounds_toArray, List.set_cons_zero, List.set_cons_succ]
    refine wpAnyH_take (i := 2) (oi := _) (v := _) rfl ?g1_17 ?g2_17 ?g3_17 (fun _ _ _ h => h) (yieldsIf_load_mid ?g4_17 _ _ rfl (w.heap.size + 1) ?oo_17 ?g5_17 (ac a) _ ?g6_17 Tryz.underlying30 rfl (info_acL a)) ?g7_17 ?_
    case g5_17 => rfl
    case g1_17 => kernel_rfl
    case g2_17 => kernel_rfl
    case g3_17 => kernel_rfl
    case g6_17 => exact (fun _ h => h.2.1)
    case g4_17 => kernel_rfl
    case g7_17 => assumption
    simp only [Act.put, List.getElem_toArray, List.getElem_cons_succ, List.getElem_cons_zero, List.setIfInBounds_toArray, List.set_cons_zero, List.set_cons_succ]
    refine wpAnyH_take (i := 4) (oi := _) (v := ?_) rfl (by kernel_rfl) (by kernel_rfl) (by kernel_rfl) (fun _ _ _ h => h) (Or.inl ⟨by rfl, ?_⟩) (by assumption) ?_
    rotate_left
    · intro w hSw; clear hSw; first | (go_simp; done) | (go_simp; with_reducible rfl)
    simp only [Act.put, List.getElem_toArray, List.getElem_cons_succ, List.getElem_cons_zero, List.setIfInBounds_toArray, List.set_cons_zero, List.set_cons_succ]
    refine wpAnyH_ready (rs := [1]) (by kernel_rfl) (by simp) ?_
    refine AllReadyH.cons (o := _) rfl (fun K hK => ?_) AllReadyH.nil
    go_simp
    refine (toRegister_any A0 c0 z0 _ (u0.below (Below_then hT hHeld.2.2)) HS.out).mono ?_
    rintro e t1 ⟨tg, rfl, tto, th1⟩
    go_wp2_with fail
    refine hK.out _ _ ⟨keep_cell hHeld.1 th1, rangeAt_below hHeld.2.1 th1, Below_then hHeld.2.2 th1⟩ (fun hHeld => ?_)
    clear hK K
    try simp only [Act.put, List.getElem_toArray, List.getElem_cons_succ, List.getElem_cons_zero, List.setIfInBounds_toArray, List.set_cons_zero, List.set_cons_succ]
    refine wpAnyH_ready (rs := [3]) (by kernel_rfl) (by simp) ?_
    refine AllReadyH.cons (o := _) rfl (fun K hK => ?_) AllReadyH.nil
    go_simp
    refine (toArmsC a _).mono ?_
    rintro e t2 ⟨rfl, th2⟩
    go_wp2_with fail
    refine hK.out _ _ ⟨keep_cell hHeld.1 th2, rangeAt_below hHeld.2.1 th2, Below_then hHeld.2.2 th2⟩ (fun hHeld => ?_)
    clear hK K
    try simp only [Act.put, List.getElem_toArray, List.getElem_cons_succ, List.getElem_cons_zero, List.setIfInBounds_toArray, List.set_cons_zero, List.set_cons_succ]
    refine wpAnyH_ready (rs := [5]) (by kernel_rfl) (by simp) ?_
    refine AllReadyH.cons (o := _) rfl (fun K hK => ?_) AllReadyH.nil
    go_simp
    refine (KI'.out _ _ (tto.rd.below th2)).mono ?_
    rintro e yc ⟨tv, rfl, hoH, th3⟩
    obtain ⟨tA, tc, rfl, -⟩ := hoH.form
    go_wp2_with fail
    refine hK.out _ _ ⟨keep_cell hHeld.1 th3, rangeAt_below hHeld.2.1 th3, Below_then hHeld.2.2 th3⟩ (fun hHeld => ?_)
    clear hK K
    try simp only [Act.put, List.getElem_toArray, List.getElem_cons_succ, List.getElem_cons_zero, List.setIfInBounds_toArray, List.set_cons_zero, List.set_cons_succ]
    refine wpAnyH_take (i := 6) (oi := _) (v := ?_) rfl (by kernel_rfl) (by kernel_rfl) (by kernel_rfl) (fun _ _ _ h => h) (Or.inl ⟨by rfl, ?_⟩) (by assumption) ?_
    rotate_left
    · intro w hSw; clear hSw; first | (go_simp; done) | (go_simp; with_reducible rfl)
    simp only [Act.put, List.getElem_toArray, List.getElem_cons_succ, List.getElem_cons_zero, List.setIfInBounds_toArray, List.set_cons_zero, List.set_cons_succ]
    refine wpAnyH_take (i := 7) (oi := _) (v := ?_) rfl (by kernel_rfl) (by kernel_rfl) (by kernel_rfl) (fun _ _ _ h => h) (Or.inl ⟨by rfl, ?_⟩) (by assumption) ?_
    rotate_left
    · intro w hSw; clear hSw; first | (go_simp; done) | (go_simp; with_reducible rfl)
    simp only [Act.put, List.getElem_toArray, List.getElem_cons_succ, List.getElem_cons_zero, List.setIfInBounds_toArray, List.set_cons_zero, List.set_cons_succ]
    refine wpAnyH_take (i := 8) (oi := _) (v := ?_) rfl (by kernel_rfl) (by kernel_rfl) (by kernel_rfl) (fun _ _ _ h => h) (Or.inl ⟨by rfl, ?_⟩) (by assumption) ?_
    rotate_left
    · intro w hSw; clear hSw; first | (go_simp; done) | (go_simp; with_reducible rfl)
    simp only [Act.put, List.getElem_toArray, List.getElem_cons_succ, List.getElem_cons_zero, List.setIfInBounds_toArray, List.set_cons_zero, List.set_cons_succ]
    refine wpAnyH_take (i := 9) (oi := _) (v := ?_) rfl (by kernel_rfl) (by kernel_rfl) (by kernel_rfl) (fun _ _ _ h => h) (Or.inl ⟨by rfl, ?_⟩) (by assumption) ?_
    rotate_left
    · intro w hSw; clear hSw; first | (go_simp; done) | (go_simp; with_reducible rfl)
    simp only [Act.put, List.getElem_toArray, List.getElem_cons_succ, List.getElem_cons_zero, List.setIfInBounds_toArray, List.set_cons_zero, List.set_cons_succ]
    refine wpAnyH_take (i := 10) (oi := _) (v := ?_) rfl (by kernel_rfl) (by kernel_rfl) (by kernel_rfl) (fun _ _ _ h => h) (Or.inl ⟨by rfl, ?_⟩) (by assumption) ?_
    rotate_left
    · intro w hSw; clear hSw; first | (go_simp; done) | (go_simp; with_reducible rfl)
    simp only [Act.put, List.getElem_toArray, List.getElem_cons_succ, List.getElem_cons_zero, List.setIfInBounds_toArray, List.set_cons_zero, List.set_cons_succ]
    refine wpAnyH_done (by kernel_rfl) ?_ _
    refine NoPanic.normal ?_
    have sb := hHeld.2.2
    have hT := Below_then hT sb
    have hoW := hoW.below sb
    have hmG := hmG.below sb
    clear hHeld sb th1 th2 th3 tto hR hF hG cF
    go_wp2_with fail
    refine (eqI zs _ hoH hoW hzl).mono ?_
    rintro e yd ⟨rfl, hyd⟩
    have hT := Below_then hT hyd
    have hmG := hmG.below hyd
    clear hyd hoH hoW
    go_wp2_with fail
    refine (heldI zs _ hmG hzl).mono ?_
    rintro e ye ⟨rfl, hye⟩
    have hT := Below_then hT hye
    clear hye hmG
    go_wp2
    go_ret
    exact ⟨rfl, hT⟩

/-! ### The row's step: written by a program of mine (frame.py) after the kit's shell -/
theorem laidOut : laidOutB Tryz.prog = true := by kernel_rfl
theorem door_met (os : Os) (args : Array Value) : laidMetH Tryz.prog Rows.fnExactSimilarGrantsRow.laid ((World.doorLaid Tryz.prog 400 os).forCall (fun _ _ => 0) ⟨#[], args, []⟩).memory :=
  laidMetH_of_parts3 (fuel := 8) (laidMet_of_run' 8 (by kernel_rfl) (by kernel_rfl)) (by kernel_rfl) (by kernel_rfl)
set_option maxRecDepth 100000 in
theorem lifted (os : Os) (started : os.Started) (H : Type) (enc : TypeId × Value → H) :
    ReturnsInHanded {} Tryz.checked os 3 .any (fun w args => (Rows.fnExactSimilarGrantsSpec.pre enc Tryz.prog Tryz.f3 [] false w args ∧ laidMetH Tryz.prog Rows.fnExactSimilarGrantsRow.laid w) ∧ sizedMet enc Tryz.prog Tryz.f3 (OpenSpec.ofChange Rows.fnExactSimilarGrantsSpec) false w args)
      (Rows.fnExactSimilarGrantsSpec.post enc Tryz.prog Tryz.f3 false true false false) := by
  refine returnsInHanded_of_change_and (C := Tryz.checked) (X := fun w _ => laidMetH Tryz.prog Rows.fnExactSimilarGrantsRow.laid w) (fun _ _ _ hh h => h.of_heap hh) own started (by kernel_rfl) Tryz.func3
    (ChangeSpec.witness_shaped (enc := enc) (C := Tryz.checked) (os := os) (X := fun w _ => laidMetH Tryz.prog Rows.fnExactSimilarGrantsRow.laid w) false (World.doorLaid Tryz.prog 400 os) #[.agg #[.slice none 0 0], .agg #[.int .i64 0, .int .i64 0, .int .i64 0, .int .i64 0, .int .i64 0, .int .i64 0, .int .i64 0, .int .i64 0, .int .i64 0, .int .i64 0, .int .i64 0, .int .i64 0, .int .i64 0, .int .i64 0, .int .i64 0], .int .i64 0] 8 rfl (World.shaped_of_RefB (by kernel_rfl) (by kernel_rfl)) (by kernel_rfl) (by kernel_rfl) (by kernel_rfl) (door_met os _)) ?_
  intro W base args ds gs before hval0 hW hcnd _ hL _
  try simp only [List.append_nil] at hW
  have hval : ∀ (j : Nat) t v, Tryz.f3.params[j]? = some t → args[j]? = some v → Value.okWide Tryz.prog W .any base t v := hval0
  have hW' := hW
  obtain ⟨p, q, hA0, hV, rfl, hfz, hnd⟩ := hW
  have hA : DataW.TrodAll enc Tryz.prog W 0 (fun _ => true) true Tryz.f3.params.toList args.toList ds p := hA0
  rw [Tryz.params3] at hA hval
  obtain ⟨v0, vs0, d0, ds0, p0, q0, hargs, rfl, rfl, h0, r0⟩ := trodAll_cons hA
  obtain ⟨v1, vs1, d1, ds1, p1, q1, rfl, rfl, rfl, h1, r1⟩ := trodAll_cons r0
  obtain ⟨v2, vs2, d2, ds2, p2, q2, rfl, rfl, rfl, h2, r2⟩ := trodAll_cons r1
  obtain ⟨rfl, rfl, rfl⟩ := trodAll_nil r2
  obtain rfl : args = #[v0, v1, v2] := by cases args; simp_all
  obtain ⟨rfl, rfl⟩ := trodVars_none hV
  have k0 := h0
  have lt0 : ∀ x ∈ p0, x.block < W.heap.size := by obtain ⟨m, hm⟩ := k0; exact DataW.trod_lt m _ _ _ hm
  obtain ⟨A0, c0, z0, rfl, u0, l0, s0⟩ := openRegister (hval 0 24 v0 rfl rfl) h0
  have k1 := h1
  have lt1 : ∀ x ∈ p1, x.block < W.heap.size := by obtain ⟨m, hm⟩ := k1; exact DataW.trod_lt m _ _ _ hm
  obtain ⟨a1, rfl, w1⟩ := openArms (hval 1 30 v1 rfl rfl) h1
  have k2 := h2
  have lt2 : ∀ x ∈ p2, x.block < W.heap.size := by obtain ⟨m, hm⟩ := k2; exact DataW.trod_lt m _ _ _ hm
  obtain ⟨a2, rfl, -, -, w2⟩ := open_int Tryz.underlying3 (hval 2 3 v2 rfl rfl) h2
  clear hA0 hval0
  refine (walk W A0 c0 z0 u0 l0 s0 a1 w1 a2 w2).mono fun e W' ⟨he, bel⟩ => ?_
  subst he
  exact ⟨_, rfl, _, _, _, [], _, [], hW', trodAll_mk1 (shut_bool Tryz.underlying4 _), (trodAll_cons_mk (Below.trod laidOut (by kernel_rfl) (of_decide_eq_true (by kernel_rfl)) k0 bel lt0) (trodAll_cons_mk (Below.trod laidOut (by kernel_rfl) (of_decide_eq_true (by kernel_rfl)) k1 bel lt1) (trodAll_cons_mk (Below.trod laidOut (by kernel_rfl) (of_decide_eq_true (by kernel_rfl)) k2 bel lt2) trodAll_mk0))), rfl, bel.frame _, fun h => by cases h⟩

theorem over : Rows.FnExactSimilarGrantsSaid :=
  OpenClaim.holds_of_wide 3 Tryz.f3 rfl rfl rfl rfl rfl rfl rfl ⟨rfl, rfl, rfl, rfl, rfl⟩ rfl rfl rfl rfl rfl (by kernel_rfl) Tryz.func3 (by kernel_rfl)
    (of_decide_eq_true (by kernel_rfl)) (by unfold Func.isWrapper; first | (rw [if_pos (by decide +kernel)]; kernel_rfl) | (rw [if_neg (by decide +kernel)]; exact ⟨rfl, rfl⟩))
    (fun os started H enc _ => lifted os started H enc)

theorem proved : Rows.FnExactSimilarGrantsCardSaid :=
  Claim7.holds_tied_plain_at .later [] Rows.fnExactSimilarGrantsCard.laidKinds true Rows.fnExactSimilarGrantsCard.stood.harness false
    over (fun _ h => by cases h) (by kernel_rfl) (fun _ h => by cases h) fnExactSimilarGrants_row_tie rfl ⟨rfl, rfl⟩ (by kernel_rfl) rfl
    (fun f fn hf hfn => by
      obtain rfl : f = 3 := Option.some.inj ((show Tryz.prog.funcNamed Rows.fnExactSimilarGrantsRow.func = some 3 by kernel_rfl).symm.trans hf) |>.symm
      obtain rfl : fn = Tryz.f3 := (Option.some.inj (Tryz.func3.symm.trans hfn)).symm
      exact ⟨by kernel_rfl, fun j t ht => by
        rw [Tryz.params3] at ht
        have hm : t ∈ ([24, 30, 3] : List TypeId) := by simpa using Array.mem_of_getElem? ht
        have hall : (([24, 30, 3] : List TypeId).all fun u => !Tryz.prog.wantsStandIn u) = true := by kernel_rfl
        exact (show Tryz.prog.wantsStandIn t = false by simpa using List.all_eq_true.1 hall t hm)⟩)
    (by kernel_rfl)
#print axioms proved

end Go.Proofs.YtmjgogklalploaaGreatDoor.fnExactSimilarGrants
