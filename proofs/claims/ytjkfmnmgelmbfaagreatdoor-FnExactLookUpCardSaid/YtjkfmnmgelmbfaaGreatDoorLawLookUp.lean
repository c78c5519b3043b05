/- FnExactLookUp: for all arguments LookUp of the program returns what LookUp of the reference returns, leaves its arguments as they are, in memory of its own. No condition. -/
import Derived.Test.YtjkfmnmgelmbfaaGreatDoorFeat2
import Derived.Test.YtjkfmnmgelmbfaaGreatDoorStrs2
import Derived.Test.YtjkfmnmgelmbfaaGreatDoorFeat5
import Derived.Test.YtjkfmnmgelmbfaaGreatDoorConf
import Derived.Deep.Strs
import Derived.Test.YtjkfmnmgelmbfaaGreatDoorRows
import Derived.Test.YtjkfmnmgelmbfaaGreatDoorGrMark
import Derived.Test.YtjkfmnmgelmbfaaGreatDoorGrOpen
import Derived.Test.YtjkfmnmgelmbfaaGreatDoorInts
import Derived.Test.YtjkfmnmgelmbfaaGreatDoorCards
import Derived.Test.YtjkfmnmgelmbfaaGreatDoorTie
import Derived.ProofKit
import Derived.LaidMore
import Derived.OpenShut
import Derived.Stop.Joined
import Derived.SevenTiedAt
/-! ### List -/
namespace Go.Proofs.YtjkfmnmgelmbfaaGreatDoor
open Go.ChangeShapes Go.WideShapes Go.ChangeAt Go.RowKit
set_option linter.unusedVariables false
set_option linter.unusedSimpArgs false
/-- The feature at a place is one, and stands behind the one ahead of it. -/
def okAt (zs : List ByteArray) (i : Nat) : Bool :=
  match zs[i]? with
  | none => true
  | some x => hasB FEATS x && (decide (i = 0) || match zs[i - 1]? with | none => true | some y => ltS y x)
def lsOk (zs : List ByteArray) : Bool := (List.range zs.length).all (okAt zs) && decide (zs.length ≤ 10)
theorem lsOk_no {zs : List ByteArray} {k : Nat} {x : ByteArray} (hx : zs[k]? = some x) (h : okAt zs k = false) : lsOk zs = false := by
  have hk := (List.getElem?_eq_some_iff.1 hx).1
  unfold lsOk
  rw [Bool.and_eq_false_iff]
  left
  rw [List.all_eq_false]
  exact ⟨k, List.mem_range.2 hk, by rw [h]; simp⟩
theorem lsOk_len {zs : List ByteArray} (h : ∀ j, j < zs.length → okAt zs j = true) : lsOk zs = decide (zs.length ≤ 10) := by
  unfold lsOk
  rw [List.all_eq_true.2 fun j hj => h j (List.mem_range.1 hj), Bool.true_and]
theorem lsOk_small {zs : List ByteArray} (h : lsOk zs = true) : zs.length ≤ 10 := by
  unfold lsOk at h
  rw [Bool.and_eq_true] at h
  exact of_decide_eq_true h.2
set_option maxHeartbeats 2000000 in
theorem areFeatures_any (A : Option Addr) (c : Nat) (zs : List ByteArray) (w : World) (h : RdS w A zs) (hx : zs.length ≤ 1048576) (hs : ∀ s ∈ zs, s.size ≤ maxLen) :
    Calls Tryz.prog 39 #[.slice A zs.length c] w fun e w' => e = .returned (.bool (lsOk zs)) ∧ Below w.heap.size w w' := by
  go_enter Tryz.func39, Tryz.ntmps39
  go_wp2_with fail
  go_loopw [7] (fun i wr => ∃ k : Nat, k ≤ zs.length ∧ i = .int .i64 k ∧ (∀ j, j < k → okAt zs j = true) ∧ Below w.heap.size w wr) (fun i _ => zs.length - (intOf i).toNat)
  case atStart => exact ⟨0, Nat.zero_le _, rfl, fun j hj => absurd hj (by omega), Below.refl _ _⟩
  case round =>
    obtain ⟨k, hk, rfl, hall, hb⟩ := hrel
    have HA := Lib.hid hall
    clear hall
    by_cases hlt : k < zs.length
    · obtain ⟨b, off, rfl, c1, -⟩ := (h.below hb).at_ hlt
      obtain ⟨x, hx⟩ : ∃ x, x = zs[k] := ⟨_, rfl⟩
      rw [← hx] at c1
      have hxm : x.size ≤ maxLen := by rw [hx]; exact hs _ (List.getElem_mem _)
      have hxk : zs[k]? = some x := by rw [hx]; exact List.getElem?_eq_getElem hlt
      have HX := Lib.hid hxk
      have i1 : (k : Int) < (zs.length : Int) := by omega
      have d1 : decide (k < zs.length) = true := by simpa using hlt
      obtain ⟨q, hq⟩ : ∃ q, q = hasB FEATS x := ⟨_, rfl⟩
      have KI := Lib.hid (fun w => implIsFeature_any x w)
      rw [← hq] at KI
      have HQ := Lib.hid hq
      clear hx hxm hxk hq
      cases q
      · skip
        go_wp2_with fail
        refine (KI.out _).mono ?_
        rintro e w2 ⟨rfl, hb2⟩
        have hb3 := Below_then hb hb2
        clear hb2
        go_wp2
        go_ret
        exact ⟨retB (lsOk_no HX.out (by unfold okAt; rw [HX.out]; simp [← HQ.out])).symm, hb3⟩
      · cases k with
        | zero =>
          simp only [Nat.add_zero] at c1
          go_wp2_with fail
          refine (KI.out _).mono ?_
          rintro e w2 ⟨rfl, hb2⟩
          have hb3 := Below_then hb hb2
          clear hb2
          go_wp2
          go_roundw
          case rel =>
            refine ⟨1, by omega, by go_num, fun j hj => ?_, hb3⟩
            obtain rfl : j = 0 := by omega
            unfold okAt
            rw [HX.out]
            simp [← HQ.out]
          case measure => simp [intOf]; omega
        | succ j =>
          obtain ⟨b', off', e1, c2, -⟩ := (h.below hb).at_ (show j < zs.length by omega)
          injection e1 with e1
          injection e1 with e1 e2
          subst e1 e2
          obtain ⟨y, hy⟩ : ∃ y, y = zs[j] := ⟨_, rfl⟩
          rw [← hy] at c2
          have hyj : zs[j]? = some y := by rw [hy]; exact List.getElem?_eq_getElem (by omega)
          have HY := Lib.hid hyj
          have f1 : (0 : Int) ≤ (j : Int) + 1 := by omega
          have f2 : (j : Int) + 1 < (zs.length : Int) := by omega
          have f3 : IntKind.i64.wrap (j : Int) = (j : Int) := by rw [IntKind.wrap_i64]; omega
          have f4 : (j : Int) < (zs.length : Int) := by omega
          have f5 : (0 : Int) < (j : Int) + 1 := by omega
          clear hy hyj
          cases hl : Op.bytesLess y.toList x.toList
          · have HL := Lib.hid hl
            go_wp2_with fail
            refine (KI.out _).mono ?_
            rintro e w2 ⟨rfl, hb2⟩
            have hb3 := Below_then hb hb2
            have c2 := keep_cell c2 hb2
            clear hb2
            go_wp2
            go_ret
            exact ⟨retB (lsOk_no HX.out (by unfold okAt; rw [HX.out, Nat.add_sub_cancel, HY.out]; simp [← HQ.out]; exact HL.out)).symm, hb3⟩
          · have HL := Lib.hid hl
            go_wp2_with fail
            refine (KI.out _).mono ?_
            rintro e w2 ⟨rfl, hb2⟩
            have hb3 := Below_then hb hb2
            have c2 := keep_cell c2 hb2
            clear hb2
            go_wp2
            go_roundw
            case rel =>
              refine ⟨j + 2, by omega, by go_num, fun i hi => ?_, hb3⟩
              by_cases e : i = j + 1
              · subst e
                unfold okAt
                rw [HX.out, Nat.add_sub_cancel, HY.out]
                simp [← HQ.out]
                exact HL.out
              · exact HA.out i (by omega)
            case measure => simp [intOf]; omega
    · obtain rfl : k = zs.length := by omega
      have d1 : decide (zs.length < zs.length) = false := by simp
      have e : lsOk zs = decide (zs.length ≤ 10) := lsOk_len HA.out
      have HE := Lib.hid e
      clear e
      by_cases h10 : zs.length ≤ 10
      · have g1 : (zs.length : Int) ≤ 10 := by omega
        go_wp2
        go_ret
        exact ⟨retB (by rw [HE.out]; simpa using h10), hb⟩
      · have g1 : ¬ (zs.length : Int) ≤ 10 := by omega
        go_wp2
        go_ret
        exact ⟨retB (by rw [HE.out]; simpa using h10), hb⟩
set_option maxHeartbeats 4000000 in
theorem l17List_any (A : Option Addr) (c : Nat) (zs : List ByteArray) (w : World) (h : RdS w A zs) (hx : zs.length ≤ 1048576) (hs : ∀ s ∈ zs, s.size ≤ maxLen) :
    Calls Tryz.prog 35 #[.slice A zs.length c] w fun e w' => e = .returned (.bool (lsOk zs)) ∧ Below w.heap.size w w' := by
  go_enter Tryz.func35, Tryz.ntmps35
  go_wp2_with fail
  go_loopw [3] (fun i wr => ∃ k : Nat, k ≤ zs.length ∧ i = .int .i64 k ∧ (∀ j, j < k → okAt zs j = true) ∧ Below w.heap.size w wr) (fun i _ => zs.length - (intOf i).toNat)
  case atStart => exact ⟨0, Nat.zero_le _, rfl, fun j hj => absurd hj (by omega), Below.refl _ _⟩
  case round =>
    obtain ⟨k, hk, rfl, hall, hb⟩ := hrel
    have HA := Lib.hid hall
    clear hall
    by_cases hlt : k < zs.length
    · obtain ⟨b, off, rfl, c1, -⟩ := (h.below hb).at_ hlt
      obtain ⟨x, hx⟩ : ∃ x, x = zs[k] := ⟨_, rfl⟩
      rw [← hx] at c1
      have hxm : x.size ≤ maxLen := by rw [hx]; exact hs _ (List.getElem_mem _)
      have hxk : zs[k]? = some x := by rw [hx]; exact List.getElem?_eq_getElem hlt
      have HX := Lib.hid hxk
      have i1 : (k : Int) < (zs.length : Int) := by omega
      have d1 : decide (k < zs.length) = true := by simpa using hlt
      obtain ⟨q, hq⟩ : ∃ q, q = hasB FEATS x := ⟨_, rfl⟩
      have KI := Lib.hid (fun w => specIsFeature_any x w hxm)
      rw [← hq] at KI
      have HQ := Lib.hid hq
      clear hx hxm hxk hq
      cases q
      · skip
        go_wp2_with fail
        refine wp_region_noPanic ?_
        refine wp_region_held_drew (S := (fun w' => w'.cell? ⟨b, off + k, none⟩ = some (.string x) ∧ Below wr.heap.size wr w')) (by kernel_rfl) ⟨c1, (Below.refl _ _).drew⟩ (fun hHeld => ?_)
        refine wpAnyH_take (i := 0) (oi := _) (v := ?_) rfl (by kernel_rfl) (by kernel_rfl) (by kernel_rfl) (fun _ _ _ h => h) (Or.inl ⟨by rfl, ?_⟩) (by assumption) ?_
        rotate_left
        · intro w hSw; clear hSw; first | (go_simp; done) | (go_simp; with_reducible rfl)
        simp only [Act.put, List.getElem_toArray, List.getElem_cons_succ, List.getElem_cons_zero, List.setIfInBounds_toArray, List.set_cons_zero, List.set_cons_succ]
        refine wpAnyH_take (i := 1) (oi := _) (v := ?_) rfl (by kernel_rfl) (by kernel_rfl) (by kernel_rfl) (fun _ _ _ h => h) (Or.inl ⟨by rfl, ?_⟩) (by assumption) ?_
        rotate_left
        · intro w hSw; clear hSw; first | (go_simp; done) | (go_simp; with_reducible rfl)
        simp only [Act.put, List.getElem_toArray, List.getElem_cons_succ, List.getElem_cons_zero, List.setIfInBounds_toArray, List.set_cons_zero, List.set_cons_succ]
        refine wpAnyH_take (i := 2) (oi := _) (v := ?_) rfl (by kernel_rfl) (by kernel_rfl) (by kernel_rfl) (fun _ _ _ h => h) (Or.inl ⟨by rfl, ?_⟩) (by assumption) ?_
        rotate_left
        · intro w hSw; clear hSw; first | (go_simp; done) | (go_simp; with_reducible rfl)
        simp only [Act.put, List.getElem_toArray, List.getElem_cons_succ, List.getElem_cons_zero, List.setIfInBounds_toArray, List.set_cons_zero, List.set_cons_succ]
        refine wpAnyH_take (i := 3) (oi := _) (v := ?_) rfl (by kernel_rfl) (by kernel_rfl) (by kernel_rfl) (fun _ _ _ h => h) (Or.inl ⟨by rfl, ?_⟩) (by assumption) ?_
        rotate_left
        · intro w hSw; (try dsimp only at hSw); first | (go_simp; done) | (go_simp; with_reducible rfl)
        simp only [Act.put, List.getElem_toArray, List.getElem_cons_succ, List.getElem_cons_zero, List.setIfInBounds_toArray, List.set_cons_zero, List.set_cons_succ]
        refine wpAnyH_ready (rs := [4]) (by kernel_rfl) (by simp) ?_
        refine AllReadyH.cons (o := _) rfl (fun K hK => ?_) AllReadyH.nil
        go_simp
        refine (KI.out _).mono ?_
        rintro e w2 ⟨rfl, hb2⟩
        go_wp2_with fail
        refine hK.out _ _ ⟨keep_cell hHeld.1 hb2, Below_then hHeld.2 hb2⟩ (fun hHeld => ?_)
        clear hK K
        try simp only [Act.put, List.getElem_toArray, List.getElem_cons_succ, List.getElem_cons_zero, List.setIfInBounds_toArray, List.set_cons_zero, List.set_cons_succ]
        refine wpAnyH_take (i := 5) (oi := _) (v := ?_) rfl (by kernel_rfl) (by kernel_rfl) (by kernel_rfl) (fun _ _ _ h => h) (Or.inl ⟨by rfl, ?_⟩) (by assumption) ?_
        rotate_left
        · intro w hSw; clear hSw; first | (go_simp; done) | (go_simp; with_reducible rfl)
        simp only [Act.put, List.getElem_toArray, List.getElem_cons_succ, List.getElem_cons_zero, List.setIfInBounds_toArray, List.set_cons_zero, List.set_cons_succ]
        refine wpAnyH_take (i := 6) (oi := _) (v := ?_) rfl (by kernel_rfl) (by kernel_rfl) (by kernel_rfl) (fun _ _ _ h => h) (Or.inl ⟨by rfl, ?_⟩) (by assumption) ?_
        rotate_left
        · intro w hSw; clear hSw; first | (go_simp; done) | (go_simp; with_reducible rfl)
        simp only [Act.put, List.getElem_toArray, List.getElem_cons_succ, List.getElem_cons_zero, List.setIfInBounds_toArray, List.set_cons_zero, List.set_cons_succ]
        refine wpAnyH_take (i := 7) (oi := _) (v := _) rfl (by kernel_rfl) (by kernel_rfl) (by kernel_rfl) (fun _ _ _ h => h) (Or.inr ⟨by kernel_rfl, rfl⟩) (by assumption) ?_
        simp only [Act.put, List.getElem_toArray, List.getElem_cons_succ, List.getElem_cons_zero, List.setIfInBounds_toArray, List.set_cons_zero, List.set_cons_succ]
        refine wpAnyH_take (i := 8) (oi := _) (v := _) rfl (by kernel_rfl) (by kernel_rfl) (by kernel_rfl) (fun _ _ _ h => h) (Or.inr ⟨by kernel_rfl, rfl⟩) (by assumption) ?_
        simp only [Act.put, List.getElem_toArray, List.getElem_cons_succ, List.getElem_cons_zero, List.setIfInBounds_toArray, List.set_cons_zero, List.set_cons_succ]
        refine wpAnyH_take (i := 9) (oi := _) (v := _) rfl (by kernel_rfl) (by kernel_rfl) (by kernel_rfl) (fun _ _ _ h => h) (Or.inr ⟨by kernel_rfl, rfl⟩) (by assumption) ?_
        simp only [Act.put, List.getElem_toArray, List.getElem_cons_succ, List.getElem_cons_zero, List.setIfInBounds_toArray, List.set_cons_zero, List.set_cons_succ]
        refine wpAnyH_take (i := 10) (oi := _) (v := _) rfl (by kernel_rfl) (by kernel_rfl) (by kernel_rfl) (fun _ _ _ h => h) (Or.inr ⟨by kernel_rfl, rfl⟩) (by assumption) ?_
        simp only [Act.put, List.getElem_toArray, List.getElem_cons_succ, List.getElem_cons_zero, List.setIfInBounds_toArray, List.set_cons_zero, List.set_cons_succ]
        refine wpAnyH_take (i := 11) (oi := _) (v := _) rfl (by kernel_rfl) (by kernel_rfl) (by kernel_rfl) (fun _ _ _ h => h) (Or.inr ⟨by kernel_rfl, rfl⟩) (by assumption) ?_
        simp only [Act.put, List.getElem_toArray, List.getElem_cons_succ, List.getElem_cons_zero, List.setIfInBounds_toArray, List.set_cons_zero, List.set_cons_succ]
        refine wpAnyH_take (i := 12) (oi := _) (v := _) rfl (by kernel_rfl) (by kernel_rfl) (by kernel_rfl) (fun _ _ _ h => h) (Or.inr ⟨by kernel_rfl, rfl⟩) (by assumption) ?_
        simp only [Act.put, List.getElem_toArray, List.getElem_cons_succ, List.getElem_cons_zero, List.setIfInBounds_toArray, List.set_cons_zero, List.set_cons_succ]
        refine wpAnyH_take (i := 13) (oi := _) (v := _) rfl (by kernel_rfl) (by kernel_rfl) (by kernel_rfl) (fun _ _ _ h => h) (Or.inr ⟨by kernel_rfl, rfl⟩) (by assumption) ?_
        simp only [Act.put, List.getElem_toArray, List.getElem_cons_succ, List.getElem_cons_zero, List.setIfInBounds_toArray, List.set_cons_zero, List.set_cons_succ]
        refine wpAnyH_take (i := 14) (oi := _) (v := _) rfl (by kernel_rfl) (by kernel_rfl) (by kernel_rfl) (fun _ _ _ h => h) (Or.inr ⟨by kernel_rfl, rfl⟩) (by assumption) ?_
        simp only [Act.put, List.getElem_toArray, List.getElem_cons_succ, List.getElem_cons_zero, List.setIfInBounds_toArray, List.set_cons_zero, List.set_cons_succ]
        refine wpAnyH_take (i := 15) (oi := _) (v := _) rfl (by kernel_rfl) (by kernel_rfl) (by kernel_rfl) (fun _ _ _ h => h) (Or.inr ⟨by kernel_rfl, rfl⟩) (by assumption) ?_
        simp only [Act.put, List.getElem_toArray, List.getElem_cons_succ, List.getElem_cons_zero, List.setIfInBounds_toArray, List.set_cons_zero, List.set_cons_succ]
        refine wpAnyH_take (i := 16) (oi := _) (v := _) rfl (by kernel_rfl) (by kernel_rfl) (by kernel_rfl) (fun _ _ _ h => h) (Or.inr ⟨by kernel_rfl, rfl⟩) (by assumption) ?_
        simp only [Act.put, List.getElem_toArray, List.getElem_cons_succ, List.getElem_cons_zero, List.setIfInBounds_toArray, List.set_cons_zero, List.set_cons_succ]
        refine wpAnyH_take (i := 17) (oi := _) (v := _) rfl (by kernel_rfl) (by kernel_rfl) (by kernel_rfl) (fun _ _ _ h => h) (Or.inr ⟨by kernel_rfl, rfl⟩) (by assumption) ?_
        simp only [Act.put, List.getElem_toArray, List.getElem_cons_succ, List.getElem_cons_zero, List.setIfInBounds_toArray, List.set_cons_zero, List.set_cons_succ]
        refine wpAnyH_take (i := 18) (oi := _) (v := _) rfl (by kernel_rfl) (by kernel_rfl) (by kernel_rfl) (fun _ _ _ h => h) (Or.inr ⟨by kernel_rfl, rfl⟩) (by assumption) ?_
        simp only [Act.put, List.getElem_toArray, List.getElem_cons_succ, List.getElem_cons_zero, List.setIfInBounds_toArray, List.set_cons_zero, List.set_cons_succ]
        refine wpAnyH_take (i := 19) (oi := _) (v := _) rfl (by kernel_rfl) (by kernel_rfl) (by kernel_rfl) (fun _ _ _ h => h) (Or.inr ⟨by kernel_rfl, rfl⟩) (by assumption) ?_
        simp only [Act.put, List.getElem_toArray, List.getElem_cons_succ, List.getElem_cons_zero, List.setIfInBounds_toArray, List.set_cons_zero, List.set_cons_succ]
        refine wpAnyH_take (i := 20) (oi := _) (v := _) rfl (by kernel_rfl) (by kernel_rfl) (by kernel_rfl) (fun _ _ _ h => h) (Or.inr ⟨by kernel_rfl, rfl⟩) (by assumption) ?_
        simp only [Act.put, List.getElem_toArray, List.getElem_cons_succ, List.getElem_cons_zero, List.setIfInBounds_toArray, List.set_cons_zero, List.set_cons_succ]
        refine wpAnyH_take (i := 21) (oi := _) (v := ?_) rfl (by kernel_rfl) (by kernel_rfl) (by kernel_rfl) (fun _ _ _ h => h) (Or.inl ⟨by rfl, ?_⟩) (by assumption) ?_
        rotate_left
        · intro w hSw; clear hSw; first | (go_simp; done) | (go_simp; with_reducible rfl)
        simp only [Act.put, List.getElem_toArray, List.getElem_cons_succ, List.getElem_cons_zero, List.setIfInBounds_toArray, List.set_cons_zero, List.set_cons_succ]
        refine wpAnyH_done (by kernel_rfl) ?_ _
        refine NoPanic.normal ?_
        have hb3 := Below_then hb hHeld.2
        clear hHeld
        try (refine hK _ _ ?_; clear hK K)
        go_wp2
        go_ret
        exact ⟨retB (lsOk_no HX.out (by unfold okAt; rw [HX.out]; simp [← HQ.out])).symm, hb3⟩
      · cases k with
        | zero =>
          simp only [Nat.add_zero] at c1
          go_wp2_with fail
          refine wp_region_noPanic ?_
          refine wp_region_held_drew (S := (fun w' => w'.cell? ⟨b, off, none⟩ = some (.string x) ∧ Below wr.heap.size wr w')) (by kernel_rfl) ⟨c1, (Below.refl _ _).drew⟩ (fun hHeld => ?_)
          refine wpAnyH_take (i := 0) (oi := _) (v := ?_) rfl (by kernel_rfl) (by kernel_rfl) (by kernel_rfl) (fun _ _ _ h => h) (Or.inl ⟨by rfl, ?_⟩) (by assumption) ?_
          rotate_left
          · intro w hSw; clear hSw; first | (go_simp; done) | (go_simp; with_reducible rfl)
          simp only [Act.put, List.getElem_toArray, List.getElem_cons_succ, List.getElem_cons_zero, List.setIfInBounds_toArray, List.set_cons_zero, List.set_cons_succ]
          refine wpAnyH_take (i := 1) (oi := _) (v := ?_) rfl (by kernel_rfl) (by kernel_rfl) (by kernel_rfl) (fun _ _ _ h => h) (Or.inl ⟨by rfl, ?_⟩) (by assumption) ?_
          rotate_left
          · intro w hSw; clear hSw; first | (go_simp; done) | (go_simp; with_reducible rfl)
          simp only [Act.put, List.getElem_toArray, List.getElem_cons_succ, List.getElem_cons_zero, List.setIfInBounds_toArray, List.set_cons_zero, List.set_cons_succ]
          refine wpAnyH_take (i := 2) (oi := _) (v := ?_) rfl (by kernel_rfl) (by kernel_rfl) (by kernel_rfl) (fun _ _ _ h => h) (Or.inl ⟨by rfl, ?_⟩) (by assumption) ?_
          rotate_left
          · intro w hSw; clear hSw; first | (go_simp; done) | (go_simp; with_reducible rfl)
          simp only [Act.put, List.getElem_toArray, List.getElem_cons_succ, List.getElem_cons_zero, List.setIfInBounds_toArray, List.set_cons_zero, List.set_cons_succ]
          refine wpAnyH_take (i := 3) (oi := _) (v := ?_) rfl (by kernel_rfl) (by kernel_rfl) (by kernel_rfl) (fun _ _ _ h => h) (Or.inl ⟨by rfl, ?_⟩) (by assumption) ?_
          rotate_left
          · intro w hSw; (try dsimp only at hSw); first | (go_simp; done) | (go_simp; with_reducible rfl)
          simp only [Act.put, List.getElem_toArray, List.getElem_cons_succ, List.getElem_cons_zero, List.setIfInBounds_toArray, List.set_cons_zero, List.set_cons_succ]
          refine wpAnyH_ready (rs := [4]) (by kernel_rfl) (by simp) ?_
          refine AllReadyH.cons (o := _) rfl (fun K hK => ?_) AllReadyH.nil
          go_simp
          refine (KI.out _).mono ?_
          rintro e w2 ⟨rfl, hb2⟩
          go_wp2_with fail
          refine hK.out _ _ ⟨keep_cell hHeld.1 hb2, Below_then hHeld.2 hb2⟩ (fun hHeld => ?_)
          clear hK K
          try simp only [Act.put, List.getElem_toArray, List.getElem_cons_succ, List.getElem_cons_zero, List.setIfInBounds_toArray, List.set_cons_zero, List.set_cons_succ]
          refine wpAnyH_take (i := 5) (oi := _) (v := ?_) rfl (by kernel_rfl) (by kernel_rfl) (by kernel_rfl) (fun _ _ _ h => h) (Or.inl ⟨by rfl, ?_⟩) (by assumption) ?_
          rotate_left
          · intro w hSw; clear hSw; first | (go_simp; done) | (go_simp; with_reducible rfl)
          simp only [Act.put, List.getElem_toArray, List.getElem_cons_succ, List.getElem_cons_zero, List.setIfInBounds_toArray, List.set_cons_zero, List.set_cons_succ]
          refine wpAnyH_take (i := 6) (oi := _) (v := ?_) rfl (by kernel_rfl) (by kernel_rfl) (by kernel_rfl) (fun _ _ _ h => h) (Or.inl ⟨by rfl, ?_⟩) (by assumption) ?_
          rotate_left
          · intro w hSw; clear hSw; first | (go_simp; done) | (go_simp; with_reducible rfl)
          simp only [Act.put, List.getElem_toArray, List.getElem_cons_succ, List.getElem_cons_zero, List.setIfInBounds_toArray, List.set_cons_zero, List.set_cons_succ]
          refine wpAnyH_take (i := 7) (oi := _) (v := ?_) rfl (by kernel_rfl) (by kernel_rfl) (by kernel_rfl) (fun _ _ _ h => h) (Or.inl ⟨by rfl, ?_⟩) (by assumption) ?_
          rotate_left
          · intro w hSw; clear hSw; first | (go_simp; done) | (go_simp; with_reducible rfl)
          simp only [Act.put, List.getElem_toArray, List.getElem_cons_succ, List.getElem_cons_zero, List.setIfInBounds_toArray, List.set_cons_zero, List.set_cons_succ]
          refine wpAnyH_take (i := 8) (oi := _) (v := ?_) rfl (by kernel_rfl) (by kernel_rfl) (by kernel_rfl) (fun _ _ _ h => h) (Or.inl ⟨by rfl, ?_⟩) (by assumption) ?_
          rotate_left
          · intro w hSw; clear hSw; first | (go_simp; done) | (go_simp; with_reducible rfl)
          simp only [Act.put, List.getElem_toArray, List.getElem_cons_succ, List.getElem_cons_zero, List.setIfInBounds_toArray, List.set_cons_zero, List.set_cons_succ]
          refine wpAnyH_take (i := 9) (oi := _) (v := ?_) rfl (by kernel_rfl) (by kernel_rfl) (by kernel_rfl) (fun _ _ _ h => h) (Or.inl ⟨by rfl, ?_⟩) (by assumption) ?_
          rotate_left
          · intro w hSw; clear hSw; first | (go_simp; done) | (go_simp; with_reducible rfl)
          simp only [Act.put, List.getElem_toArray, List.getElem_cons_succ, List.getElem_cons_zero, List.setIfInBounds_toArray, List.set_cons_zero, List.set_cons_succ]
          refine wpAnyH_take (i := 10) (oi := _) (v := _) rfl (by kernel_rfl) (by kernel_rfl) (by kernel_rfl) (fun _ _ _ h => h) (Or.inr ⟨by kernel_rfl, rfl⟩) (by assumption) ?_
          simp only [Act.put, List.getElem_toArray, List.getElem_cons_succ, List.getElem_cons_zero, List.setIfInBounds_toArray, List.set_cons_zero, List.set_cons_succ]
          refine wpAnyH_take (i := 11) (oi := _) (v := _) rfl (by kernel_rfl) (by kernel_rfl) (by kernel_rfl) (fun _ _ _ h => h) (Or.inr ⟨by kernel_rfl, rfl⟩) (by assumption) ?_
          simp only [Act.put, List.getElem_toArray, List.getElem_cons_succ, List.getElem_cons_zero, List.setIfInBounds_toArray, List.set_cons_zero, List.set_cons_succ]
          refine wpAnyH_take (i := 12) (oi := _) (v := _) rfl (by kernel_rfl) (by kernel_rfl) (by kernel_rfl) (fun _ _ _ h => h) (Or.inr ⟨by kernel_rfl, rfl⟩) (by assumption) ?_
          simp only [Act.put, List.getElem_toArray, List.getElem_cons_succ, List.getElem_cons_zero, List.setIfInBounds_toArray, List.set_cons_zero, List.set_cons_succ]
          refine wpAnyH_take (i := 13) (oi := _) (v := _) rfl (by kernel_rfl) (by kernel_rfl) (by kernel_rfl) (fun _ _ _ h => h) (Or.inr ⟨by kernel_rfl, rfl⟩) (by assumption) ?_
          simp only [Act.put, List.getElem_toArray, List.getElem_cons_succ, List.getElem_cons_zero, List.setIfInBounds_toArray, List.set_cons_zero, List.set_cons_succ]
          refine wpAnyH_take (i := 14) (oi := _) (v := _) rfl (by kernel_rfl) (by kernel_rfl) (by kernel_rfl) (fun _ _ _ h => h) (Or.inr ⟨by kernel_rfl, rfl⟩) (by assumption) ?_
          simp only [Act.put, List.getElem_toArray, List.getElem_cons_succ, List.getElem_cons_zero, List.setIfInBounds_toArray, List.set_cons_zero, List.set_cons_succ]
          refine wpAnyH_take (i := 15) (oi := _) (v := _) rfl (by kernel_rfl) (by kernel_rfl) (by kernel_rfl) (fun _ _ _ h => h) (Or.inr ⟨by kernel_rfl, rfl⟩) (by assumption) ?_
          simp only [Act.put, List.getElem_toArray, List.getElem_cons_succ, List.getElem_cons_zero, List.setIfInBounds_toArray, List.set_cons_zero, List.set_cons_succ]
          refine wpAnyH_take (i := 16) (oi := _) (v := _) rfl (by kernel_rfl) (by kernel_rfl) (by kernel_rfl) (fun _ _ _ h => h) (Or.inr ⟨by kernel_rfl, rfl⟩) (by assumption) ?_
          simp only [Act.put, List.getElem_toArray, List.getElem_cons_succ, List.getElem_cons_zero, List.setIfInBounds_toArray, List.set_cons_zero, List.set_cons_succ]
          refine wpAnyH_take (i := 17) (oi := _) (v := _) rfl (by kernel_rfl) (by kernel_rfl) (by kernel_rfl) (fun _ _ _ h => h) (Or.inr ⟨by kernel_rfl, rfl⟩) (by assumption) ?_
          simp only [Act.put, List.getElem_toArray, List.getElem_cons_succ, List.getElem_cons_zero, List.setIfInBounds_toArray, List.set_cons_zero, List.set_cons_succ]
          refine wpAnyH_take (i := 18) (oi := _) (v := _) rfl (by kernel_rfl) (by kernel_rfl) (by kernel_rfl) (fun _ _ _ h => h) (Or.inr ⟨by kernel_rfl, rfl⟩) (by assumption) ?_
          simp only [Act.put, List.getElem_toArray, List.getElem_cons_succ, List.getElem_cons_zero, List.setIfInBounds_toArray, List.set_cons_zero, List.set_cons_succ]
          refine wpAnyH_take (i := 19) (oi := _) (v := _) rfl (by kernel_rfl) (by kernel_rfl) (by kernel_rfl) (fun _ _ _ h => h) (Or.inr ⟨by kernel_rfl, rfl⟩) (by assumption) ?_
          simp only [Act.put, List.getElem_toArray, List.getElem_cons_succ, List.getElem_cons_zero, List.setIfInBounds_toArray, List.set_cons_zero, List.set_cons_succ]
          refine wpAnyH_take (i := 20) (oi := _) (v := ?_) rfl (by kernel_rfl) (by kernel_rfl) (by kernel_rfl) (fun _ _ _ h => h) (Or.inl ⟨by rfl, ?_⟩) (by assumption) ?_
          rotate_left
          · intro w hSw; clear hSw; first | (go_simp; done) | (go_simp; with_reducible rfl)
          simp only [Act.put, List.getElem_toArray, List.getElem_cons_succ, List.getElem_cons_zero, List.setIfInBounds_toArray, List.set_cons_zero, List.set_cons_succ]
          refine wpAnyH_take (i := 21) (oi := _) (v := ?_) rfl (by kernel_rfl) (by kernel_rfl) (by kernel_rfl) (fun _ _ _ h => h) (Or.inl ⟨by rfl, ?_⟩) (by assumption) ?_
          rotate_left
          · intro w hSw; clear hSw; first | (go_simp; done) | (go_simp; with_reducible rfl)
          simp only [Act.put, List.getElem_toArray, List.getElem_cons_succ, List.getElem_cons_zero, List.setIfInBounds_toArray, List.set_cons_zero, List.set_cons_succ]
          refine wpAnyH_done (by kernel_rfl) ?_ _
          refine NoPanic.normal ?_
          have hb3 := Below_then hb hHeld.2
          clear hHeld
          try (refine hK _ _ ?_; clear hK K)
          go_wp2
          go_roundw
          case rel =>
            refine ⟨1, by omega, by go_num, fun j hj => ?_, hb3⟩
            obtain rfl : j = 0 := by omega
            unfold okAt
            rw [HX.out]
            simp [← HQ.out]
          case measure => simp [intOf]; omega
        | succ j =>
          obtain ⟨b', off', e1, c2, -⟩ := (h.below hb).at_ (show j < zs.length by omega)
          injection e1 with e1
          injection e1 with e1 e2
          subst e1 e2
          obtain ⟨y, hy⟩ : ∃ y, y = zs[j] := ⟨_, rfl⟩
          rw [← hy] at c2
          have hyj : zs[j]? = some y := by rw [hy]; exact List.getElem?_eq_getElem (by omega)
          have HY := Lib.hid hyj
          have f1 : (0 : Int) ≤ (j : Int) + 1 := by omega
          have f2 : (j : Int) + 1 < (zs.length : Int) := by omega
          have f3 : IntKind.i64.wrap (j : Int) = (j : Int) := by rw [IntKind.wrap_i64]; omega
          have f4 : (j : Int) < (zs.length : Int) := by omega
          have f5 : (0 : Int) < (j : Int) + 1 := by omega
          clear hy hyj
          cases hl : Op.bytesLess y.toList x.toList
          · have HL := Lib.hid hl
            go_wp2_with fail
            refine wp_region_noPanic ?_
            refine wp_region_held_drew (S := (fun w' => w'.cell? ⟨b, off + (j + 1), none⟩ = some (.string x) ∧ w'.cell? ⟨b, off + j, none⟩ = some (.string y) ∧ Below wr.heap.size wr w')) (by kernel_rfl) ⟨c1, c2, (Below.refl _ _).drew⟩ (fun hHeld => ?_)
            refine wpAnyH_take (i := 0) (oi := _) (v := ?_) rfl (by kernel_rfl) (by kernel_rfl) (by kernel_rfl) (fun _ _ _ h => h) (Or.inl ⟨by rfl, ?_⟩) (by assumption) ?_
            rotate_left
            · intro w hSw; clear hSw; first | (go_simp; done) | (go_simp; with_reducible rfl)
            simp only [Act.put, List.getElem_toArray, List.getElem_cons_succ, List.getElem_cons_zero, List.setIfInBounds_toArray, List.set_cons_zero, List.set_cons_succ]
            refine wpAnyH_take (i := 1) (oi := _) (v := ?_) rfl (by kernel_rfl) (by kernel_rfl) (by kernel_rfl) (fun _ _ _ h => h) (Or.inl ⟨by rfl, ?_⟩) (by assumption) ?_
            rotate_left
            · intro w hSw; clear hSw; first | (go_simp; done) | (go_simp; with_reducible rfl)
            simp only [Act.put, List.getElem_toArray, List.getElem_cons_succ, List.getElem_cons_zero, List.setIfInBounds_toArray, List.set_cons_zero, List.set_cons_succ]
            refine wpAnyH_take (i := 2) (oi := _) (v := ?_) rfl (by kernel_rfl) (by kernel_rfl) (by kernel_rfl) (fun _ _ _ h => h) (Or.inl ⟨by rfl, ?_⟩) (by assumption) ?_
            rotate_left
            · intro w hSw; clear hSw; first | (go_simp; done) | (go_simp; with_reducible rfl)
            simp only [Act.put, List.getElem_toArray, List.getElem_cons_succ, List.getElem_cons_zero, List.setIfInBounds_toArray, List.set_cons_zero, List.set_cons_succ]
            refine wpAnyH_take (i := 3) (oi := _) (v := ?_) rfl (by kernel_rfl) (by kernel_rfl) (by kernel_rfl) (fun _ _ _ h => h) (Or.inl ⟨by rfl, ?_⟩) (by assumption) ?_
            rotate_left
            · intro w hSw; (try dsimp only at hSw); first | (go_simp; done) | (go_simp; with_reducible rfl)
            simp only [Act.put, List.getElem_toArray, List.getElem_cons_succ, List.getElem_cons_zero, List.setIfInBounds_toArray, List.set_cons_zero, List.set_cons_succ]
            refine wpAnyH_ready (rs := [4]) (by kernel_rfl) (by simp) ?_
            refine AllReadyH.cons (o := _) rfl (fun K hK => ?_) AllReadyH.nil
            go_simp
            refine (KI.out _).mono ?_
            rintro e w2 ⟨rfl, hb2⟩
            go_wp2_with fail
            refine hK.out _ _ ⟨keep_cell hHeld.1 hb2, keep_cell hHeld.2.1 hb2, Below_then hHeld.2.2 hb2⟩ (fun hHeld => ?_)
            clear hK K
            try simp only [Act.put, List.getElem_toArray, List.getElem_cons_succ, List.getElem_cons_zero, List.setIfInBounds_toArray, List.set_cons_zero, List.set_cons_succ]
            refine wpAnyH_take (i := 5) (oi := _) (v := ?_) rfl (by kernel_rfl) (by kernel_rfl) (by kernel_rfl) (fun _ _ _ h => h) (Or.inl ⟨by rfl, ?_⟩) (by assumption) ?_
            rotate_left
            · intro w hSw; clear hSw; first | (go_simp; done) | (go_simp; with_reducible rfl)
            simp only [Act.put, List.getElem_toArray, List.getElem_cons_succ, List.getElem_cons_zero, List.setIfInBounds_toArray, List.set_cons_zero, List.set_cons_succ]
            refine wpAnyH_take (i := 6) (oi := _) (v := ?_) rfl (by kernel_rfl) (by kernel_rfl) (by kernel_rfl) (fun _ _ _ h => h) (Or.inl ⟨by rfl, ?_⟩) (by assumption) ?_
            rotate_left
            · intro w hSw; clear hSw; first | (go_simp; done) | (go_simp; with_reducible rfl)
            simp only [Act.put, List.getElem_toArray, List.getElem_cons_succ, List.getElem_cons_zero, List.setIfInBounds_toArray, List.set_cons_zero, List.set_cons_succ]
            refine wpAnyH_take (i := 7) (oi := _) (v := ?_) rfl (by kernel_rfl) (by kernel_rfl) (by kernel_rfl) (fun _ _ _ h => h) (Or.inl ⟨by rfl, ?_⟩) (by assumption) ?_
            rotate_left
            · intro w hSw; clear hSw; first | (go_simp; done) | (go_simp; with_reducible rfl)
            simp only [Act.put, List.getElem_toArray, List.getElem_cons_succ, List.getElem_cons_zero, List.setIfInBounds_toArray, List.set_cons_zero, List.set_cons_succ]
            refine wpAnyH_take (i := 8) (oi := _) (v := ?_) rfl (by kernel_rfl) (by kernel_rfl) (by kernel_rfl) (fun _ _ _ h => h) (Or.inl ⟨by rfl, ?_⟩) (by assumption) ?_
            rotate_left
            · intro w hSw; clear hSw; first | (go_simp; done) | (go_simp; with_reducible rfl)
            simp only [Act.put, List.getElem_toArray, List.getElem_cons_succ, List.getElem_cons_zero, List.setIfInBounds_toArray, List.set_cons_zero, List.set_cons_succ]
            refine wpAnyH_take (i := 9) (oi := _) (v := ?_) rfl (by kernel_rfl) (by kernel_rfl) (by kernel_rfl) (fun _ _ _ h => h) (Or.inl ⟨by rfl, ?_⟩) (by assumption) ?_
            rotate_left
            · intro w hSw; clear hSw; first | (go_simp; done) | (go_simp; with_reducible rfl)
            simp only [Act.put, List.getElem_toArray, List.getElem_cons_succ, List.getElem_cons_zero, List.setIfInBounds_toArray, List.set_cons_zero, List.set_cons_succ]
            refine wpAnyH_take (i := 10) (oi := _) (v := ?_) rfl (by kernel_rfl) (by kernel_rfl) (by kernel_rfl) (fun _ _ _ h => h) (Or.inl ⟨by rfl, ?_⟩) (by assumption) ?_
            rotate_left
            · intro w hSw; clear hSw; first | (go_simp; done) | (go_simp; with_reducible rfl)
            simp only [Act.put, List.getElem_toArray, List.getElem_cons_succ, List.getElem_cons_zero, List.setIfInBounds_toArray, List.set_cons_zero, List.set_cons_succ]
            refine wpAnyH_take (i := 11) (oi := _) (v := ?_) rfl (by kernel_rfl) (by kernel_rfl) (by kernel_rfl) (fun _ _ _ h => h) (Or.inl ⟨by rfl, ?_⟩) (by assumption) ?_
            rotate_left
            · intro w hSw; clear hSw; first | (go_simp; done) | (go_simp; with_reducible rfl)
            simp only [Act.put, List.getElem_toArray, List.getElem_cons_succ, List.getElem_cons_zero, List.setIfInBounds_toArray, List.set_cons_zero, List.set_cons_succ]
            refine wpAnyH_take (i := 12) (oi := _) (v := ?_) rfl (by kernel_rfl) (by kernel_rfl) (by kernel_rfl) (fun _ _ _ h => h) (Or.inl ⟨by rfl, ?_⟩) (by assumption) ?_
            rotate_left
            · intro w hSw; clear hSw; first | (go_simp; done) | (go_simp; with_reducible rfl)
            simp only [Act.put, List.getElem_toArray, List.getElem_cons_succ, List.getElem_cons_zero, List.setIfInBounds_toArray, List.set_cons_zero, List.set_cons_succ]
            refine wpAnyH_take (i := 13) (oi := _) (v := ?_) rfl (by kernel_rfl) (by kernel_rfl) (by kernel_rfl) (fun _ _ _ h => h) (Or.inl ⟨by rfl, ?_⟩) (by assumption) ?_
            rotate_left
            · intro w hSw; clear hSw; first | (go_simp; done) | (go_simp; with_reducible rfl)
            simp only [Act.put, List.getElem_toArray, List.getElem_cons_succ, List.getElem_cons_zero, List.setIfInBounds_toArray, List.set_cons_zero, List.set_cons_succ]
            refine wpAnyH_take (i := 14) (oi := _) (v := ?_) rfl (by kernel_rfl) (by kernel_rfl) (by kernel_rfl) (fun _ _ _ h => h) (Or.inl ⟨by rfl, ?_⟩) (by assumption) ?_
            rotate_left
            · intro w hSw; (try dsimp only at hSw); first | (go_simp; done) | (go_simp; with_reducible rfl)
            simp only [Act.put, List.getElem_toArray, List.getElem_cons_succ, List.getElem_cons_zero, List.setIfInBounds_toArray, List.set_cons_zero, List.set_cons_succ]
            refine wpAnyH_take (i := 15) (oi := _) (v := ?_) rfl (by kernel_rfl) (by kernel_rfl) (by kernel_rfl) (fun _ _ _ h => h) (Or.inl ⟨by rfl, ?_⟩) (by assumption) ?_
            rotate_left
            · intro w hSw; clear hSw; first | (go_simp; done) | (go_simp; with_reducible rfl)
            simp only [Act.put, List.getElem_toArray, List.getElem_cons_succ, List.getElem_cons_zero, List.setIfInBounds_toArray, List.set_cons_zero, List.set_cons_succ]
            refine wpAnyH_take (i := 16) (oi := _) (v := ?_) rfl (by kernel_rfl) (by kernel_rfl) (by kernel_rfl) (fun _ _ _ h => h) (Or.inl ⟨by rfl, ?_⟩) (by assumption) ?_
            rotate_left
            · intro w hSw; clear hSw; first | (go_simp; done) | (go_simp; with_reducible rfl)
            simp only [Act.put, List.getElem_toArray, List.getElem_cons_succ, List.getElem_cons_zero, List.setIfInBounds_toArray, List.set_cons_zero, List.set_cons_succ]
            refine wpAnyH_take (i := 17) (oi := _) (v := ?_) rfl (by kernel_rfl) (by kernel_rfl) (by kernel_rfl) (fun _ _ _ h => h) (Or.inl ⟨by rfl, ?_⟩) (by assumption) ?_
            rotate_left
            · intro w hSw; clear hSw; first | (go_simp; done) | (go_simp; with_reducible rfl)
            simp only [Act.put, List.getElem_toArray, List.getElem_cons_succ, List.getElem_cons_zero, List.setIfInBounds_toArray, List.set_cons_zero, List.set_cons_succ]
            refine wpAnyH_take (i := 18) (oi := _) (v := ?_) rfl (by kernel_rfl) (by kernel_rfl) (by kernel_rfl) (fun _ _ _ h => h) (Or.inl ⟨by rfl, ?_⟩) (by assumption) ?_
            rotate_left
            · intro w hSw; (try dsimp only at hSw); first | (go_simp; done) | (go_simp; with_reducible rfl)
            simp only [Act.put, List.getElem_toArray, List.getElem_cons_succ, List.getElem_cons_zero, List.setIfInBounds_toArray, List.set_cons_zero, List.set_cons_succ]
            refine wpAnyH_take (i := 19) (oi := _) (v := ?_) rfl (by kernel_rfl) (by kernel_rfl) (by kernel_rfl) (fun _ _ _ h => h) (Or.inl ⟨by rfl, ?_⟩) (by assumption) ?_
            rotate_left
            · intro w hSw; clear hSw; first | (go_simp; done) | (go_simp; with_reducible rfl)
            simp only [Act.put, List.getElem_toArray, List.getElem_cons_succ, List.getElem_cons_zero, List.setIfInBounds_toArray, List.set_cons_zero, List.set_cons_succ]
            refine wpAnyH_take (i := 20) (oi := _) (v := ?_) rfl (by kernel_rfl) (by kernel_rfl) (by kernel_rfl) (fun _ _ _ h => h) (Or.inl ⟨by rfl, ?_⟩) (by assumption) ?_
            rotate_left
            · intro w hSw; clear hSw; first | (go_simp; done) | (go_simp; with_reducible rfl)
            simp only [Act.put, List.getElem_toArray, List.getElem_cons_succ, List.getElem_cons_zero, List.setIfInBounds_toArray, List.set_cons_zero, List.set_cons_succ]
            refine wpAnyH_take (i := 21) (oi := _) (v := ?_) rfl (by kernel_rfl) (by kernel_rfl) (by kernel_rfl) (fun _ _ _ h => h) (Or.inl ⟨by rfl, ?_⟩) (by assumption) ?_
            rotate_left
            · intro w hSw; clear hSw; first | (go_simp; done) | (go_simp; with_reducible rfl)
            simp only [Act.put, List.getElem_toArray, List.getElem_cons_succ, List.getElem_cons_zero, List.setIfInBounds_toArray, List.set_cons_zero, List.set_cons_succ]
            refine wpAnyH_done (by kernel_rfl) ?_ _
            refine NoPanic.normal ?_
            have hb3 := Below_then hb hHeld.2.2
            clear hHeld
            try (refine hK _ _ ?_; clear hK K)
            go_wp2
            go_ret
            exact ⟨retB (lsOk_no HX.out (by unfold okAt; rw [HX.out, Nat.add_sub_cancel, HY.out]; simp [← HQ.out]; exact HL.out)).symm, hb3⟩
          · have HL := Lib.hid hl
            go_wp2_with fail
            refine wp_region_noPanic ?_
            refine wp_region_held_drew (S := (fun w' => w'.cell? ⟨b, off + (j + 1), none⟩ = some (.string x) ∧ w'.cell? ⟨b, off + j, none⟩ = some (.string y) ∧ Below wr.heap.size wr w')) (by kernel_rfl) ⟨c1, c2, (Below.refl _ _).drew⟩ (fun hHeld => ?_)
            refine wpAnyH_take (i := 0) (oi := _) (v := ?_) rfl (by kernel_rfl) (by kernel_rfl) (by kernel_rfl) (fun _ _ _ h => h) (Or.inl ⟨by rfl, ?_⟩) (by assumption) ?_
            rotate_left
            · intro w hSw; clear hSw; first | (go_simp; done) | (go_simp; with_reducible rfl)
            simp only [Act.put, List.getElem_toArray, List.getElem_cons_succ, List.getElem_cons_zero, List.setIfInBounds_toArray, List.set_cons_zero, List.set_cons_succ]
            refine wpAnyH_take (i := 1) (oi := _) (v := ?_) rfl (by kernel_rfl) (by kernel_rfl) (by kernel_rfl) (fun _ _ _ h => h) (Or.inl ⟨by rfl, ?_⟩) (by assumption) ?_
            rotate_left
            · intro w hSw; clear hSw; first | (go_simp; done) | (go_simp; with_reducible rfl)
            simp only [Act.put, List.getElem_toArray, List.getElem_cons_succ, List.getElem_cons_zero, List.setIfInBounds_toArray, List.set_cons_zero, List.set_cons_succ]
            refine wpAnyH_take (i := 2) (oi := _) (v := ?_) rfl (by kernel_rfl) (by kernel_rfl) (by kernel_rfl) (fun _ _ _ h => h) (Or.inl ⟨by rfl, ?_⟩) (by assumption) ?_
            rotate_left
            · intro w hSw; clear hSw; first | (go_simp; done) | (go_simp; with_reducible rfl)
            simp only [Act.put, List.getElem_toArray, List.getElem_cons_succ, List.getElem_cons_zero, List.setIfInBounds_toArray, List.set_cons_zero, List.set_cons_succ]
            refine wpAnyH_take (i := 3) (oi := _) (v := ?_) rfl (by kernel_rfl) (by kernel_rfl) (by kernel_rfl) (fun _ _ _ h => h) (Or.inl ⟨by rfl, ?_⟩) (by assumption) ?_
            rotate_left
            · intro w hSw; (try dsimp only at hSw); first | (go_simp; done) | (go_simp; with_reducible rfl)
            simp only [Act.put, List.getElem_toArray, List.getElem_cons_succ, List.getElem_cons_zero, List.setIfInBounds_toArray, List.set_cons_zero, List.set_cons_succ]
            refine wpAnyH_ready (rs := [4]) (by kernel_rfl) (by simp) ?_
            refine AllReadyH.cons (o := _) rfl (fun K hK => ?_) AllReadyH.nil
            go_simp
            refine (KI.out _).mono ?_
            rintro e w2 ⟨rfl, hb2⟩
            go_wp2_with fail
            refine hK.out _ _ ⟨keep_cell hHeld.1 hb2, keep_cell hHeld.2.1 hb2, Below_then hHeld.2.2 hb2⟩ (fun hHeld => ?_)
            clear hK K
            try simp only [Act.put, List.getElem_toArray, List.getElem_cons_succ, List.getElem_cons_zero, List.setIfInBounds_toArray, List.set_cons_zero, List.set_cons_succ]
            refine wpAnyH_take (i := 5) (oi := _) (v := ?_) rfl (by kernel_rfl) (by kernel_rfl) (by kernel_rfl) (fun _ _ _ h => h) (Or.inl ⟨by rfl, ?_⟩) (by assumption) ?_
            rotate_left
            · intro w hSw; clear hSw; first | (go_simp; done) | (go_simp; with_reducible rfl)
            simp only [Act.put, List.getElem_toArray, List.getElem_cons_succ, List.getElem_cons_zero, List.setIfInBounds_toArray, List.set_cons_zero, List.set_cons_succ]
            refine wpAnyH_take (i := 6) (oi := _) (v := ?_) rfl (by kernel_rfl) (by kernel_rfl) (by kernel_rfl) (fun _ _ _ h => h) (Or.inl ⟨by rfl, ?_⟩) (by assumption) ?_
            rotate_left
            · intro w hSw; clear hSw; first | (go_simp; done) | (go_simp; with_reducible rfl)
            simp only [Act.put, List.getElem_toArray, List.getElem_cons_succ, List.getElem_cons_zero, List.setIfInBounds_toArray, List.set_cons_zero, List.set_cons_succ]
            refine wpAnyH_take (i := 7) (oi := _) (v := ?_) rfl (by kernel_rfl) (by kernel_rfl) (by kernel_rfl) (fun _ _ _ h => h) (Or.inl ⟨by rfl, ?_⟩) (by assumption) ?_
            rotate_left
            · intro w hSw; clear hSw; first | (go_simp; done) | (go_simp; with_reducible rfl)
            simp only [Act.put, List.getElem_toArray, List.getElem_cons_succ, List.getElem_cons_zero, List.setIfInBounds_toArray, List.set_cons_zero, List.set_cons_succ]
            refine wpAnyH_take (i := 8) (oi := _) (v := ?_) rfl (by kernel_rfl) (by kernel_rfl) (by kernel_rfl) (fun _ _ _ h => h) (Or.inl ⟨by rfl, ?_⟩) (by assumption) ?_
            rotate_left
            · intro w hSw; clear hSw; first | (go_simp; done) | (go_simp; with_reducible rfl)
            simp only [Act.put, List.getElem_toArray, List.getElem_cons_succ, List.getElem_cons_zero, List.setIfInBounds_toArray, List.set_cons_zero, List.set_cons_succ]
            refine wpAnyH_take (i := 9) (oi := _) (v := ?_) rfl (by kernel_rfl) (by kernel_rfl) (by kernel_rfl) (fun _ _ _ h => h) (Or.inl ⟨by rfl, ?_⟩) (by assumption) ?_
            rotate_left
            · intro w hSw; clear hSw; first | (go_simp; done) | (go_simp; with_reducible rfl)
            simp only [Act.put, List.getElem_toArray, List.getElem_cons_succ, List.getElem_cons_zero, List.setIfInBounds_toArray, List.set_cons_zero, List.set_cons_succ]
            refine wpAnyH_take (i := 10) (oi := _) (v := ?_) rfl (by kernel_rfl) (by kernel_rfl) (by kernel_rfl) (fun _ _ _ h => h) (Or.inl ⟨by rfl, ?_⟩) (by assumption) ?_
            rotate_left
            · intro w hSw; clear hSw; first | (go_simp; done) | (go_simp; with_reducible rfl)
            simp only [Act.put, List.getElem_toArray, List.getElem_cons_succ, List.getElem_cons_zero, List.setIfInBounds_toArray, List.set_cons_zero, List.set_cons_succ]
            refine wpAnyH_take (i := 11) (oi := _) (v := ?_) rfl (by kernel_rfl) (by kernel_rfl) (by kernel_rfl) (fun _ _ _ h => h) (Or.inl ⟨by rfl, ?_⟩) (by assumption) ?_
            rotate_left
            · intro w hSw; clear hSw; first | (go_simp; done) | (go_simp; with_reducible rfl)
            simp only [Act.put, List.getElem_toArray, List.getElem_cons_succ, List.getElem_cons_zero, List.setIfInBounds_toArray, List.set_cons_zero, List.set_cons_succ]
            refine wpAnyH_take (i := 12) (oi := _) (v := ?_) rfl (by kernel_rfl) (by kernel_rfl) (by kernel_rfl) (fun _ _ _ h => h) (Or.inl ⟨by rfl, ?_⟩) (by assumption) ?_
            rotate_left
            · intro w hSw; clear hSw; first | (go_simp; done) | (go_simp; with_reducible rfl)
            simp only [Act.put, List.getElem_toArray, List.getElem_cons_succ, List.getElem_cons_zero, List.setIfInBounds_toArray, List.set_cons_zero, List.set_cons_succ]
            refine wpAnyH_take (i := 13) (oi := _) (v := ?_) rfl (by kernel_rfl) (by kernel_rfl) (by kernel_rfl) (fun _ _ _ h => h) (Or.inl ⟨by rfl, ?_⟩) (by assumption) ?_
            rotate_left
            · intro w hSw; clear hSw; first | (go_simp; done) | (go_simp; with_reducible rfl)
            simp only [Act.put, List.getElem_toArray, List.getElem_cons_succ, List.getElem_cons_zero, List.setIfInBounds_toArray, List.set_cons_zero, List.set_cons_succ]
            refine wpAnyH_take (i := 14) (oi := _) (v := ?_) rfl (by kernel_rfl) (by kernel_rfl) (by kernel_rfl) (fun _ _ _ h => h) (Or.inl ⟨by rfl, ?_⟩) (by assumption) ?_
            rotate_left
            · intro w hSw; (try dsimp only at hSw); first | (go_simp; done) | (go_simp; with_reducible rfl)
            simp only [Act.put, List.getElem_toArray, List.getElem_cons_succ, List.getElem_cons_zero, List.setIfInBounds_toArray, List.set_cons_zero, List.set_cons_succ]
            refine wpAnyH_take (i := 15) (oi := _) (v := ?_) rfl (by kernel_rfl) (by kernel_rfl) (by kernel_rfl) (fun _ _ _ h => h) (Or.inl ⟨by rfl, ?_⟩) (by assumption) ?_
            rotate_left
            · intro w hSw; clear hSw; first | (go_simp; done) | (go_simp; with_reducible rfl)
            simp only [Act.put, List.getElem_toArray, List.getElem_cons_succ, List.getElem_cons_zero, List.setIfInBounds_toArray, List.set_cons_zero, List.set_cons_succ]
            refine wpAnyH_take (i := 16) (oi := _) (v := ?_) rfl (by kernel_rfl) (by kernel_rfl) (by kernel_rfl) (fun _ _ _ h => h) (Or.inl ⟨by rfl, ?_⟩) (by assumption) ?_
            rotate_left
            · intro w hSw; clear hSw; first | (go_simp; done) | (go_simp; with_reducible rfl)
            simp only [Act.put, List.getElem_toArray, List.getElem_cons_succ, List.getElem_cons_zero, List.setIfInBounds_toArray, List.set_cons_zero, List.set_cons_succ]
            refine wpAnyH_take (i := 17) (oi := _) (v := ?_) rfl (by kernel_rfl) (by kernel_rfl) (by kernel_rfl) (fun _ _ _ h => h) (Or.inl ⟨by rfl, ?_⟩) (by assumption) ?_
            rotate_left
            · intro w hSw; clear hSw; first | (go_simp; done) | (go_simp; with_reducible rfl)
            simp only [Act.put, List.getElem_toArray, List.getElem_cons_succ, List.getElem_cons_zero, List.setIfInBounds_toArray, List.set_cons_zero, List.set_cons_succ]
            refine wpAnyH_take (i := 18) (oi := _) (v := ?_) rfl (by kernel_rfl) (by kernel_rfl) (by kernel_rfl) (fun _ _ _ h => h) (Or.inl ⟨by rfl, ?_⟩) (by assumption) ?_
            rotate_left
            · intro w hSw; (try dsimp only at hSw); first | (go_simp; done) | (go_simp; with_reducible rfl)
            simp only [Act.put, List.getElem_toArray, List.getElem_cons_succ, List.getElem_cons_zero, List.setIfInBounds_toArray, List.set_cons_zero, List.set_cons_succ]
            refine wpAnyH_take (i := 19) (oi := _) (v := ?_) rfl (by kernel_rfl) (by kernel_rfl) (by kernel_rfl) (fun _ _ _ h => h) (Or.inl ⟨by rfl, ?_⟩) (by assumption) ?_
            rotate_left
            · intro w hSw; clear hSw; first | (go_simp; done) | (go_simp; with_reducible rfl)
            simp only [Act.put, List.getElem_toArray, List.getElem_cons_succ, List.getElem_cons_zero, List.setIfInBounds_toArray, List.set_cons_zero, List.set_cons_succ]
            refine wpAnyH_take (i := 20) (oi := _) (v := ?_) rfl (by kernel_rfl) (by kernel_rfl) (by kernel_rfl) (fun _ _ _ h => h) (Or.inl ⟨by rfl, ?_⟩) (by assumption) ?_
            rotate_left
            · intro w hSw; clear hSw; first | (go_simp; done) | (go_simp; with_reducible rfl)
            simp only [Act.put, List.getElem_toArray, List.getElem_cons_succ, List.getElem_cons_zero, List.setIfInBounds_toArray, List.set_cons_zero, List.set_cons_succ]
            refine wpAnyH_take (i := 21) (oi := _) (v := ?_) rfl (by kernel_rfl) (by kernel_rfl) (by kernel_rfl) (fun _ _ _ h => h) (Or.inl ⟨by rfl, ?_⟩) (by assumption) ?_
            rotate_left
            · intro w hSw; clear hSw; first | (go_simp; done) | (go_simp; with_reducible rfl)
            simp only [Act.put, List.getElem_toArray, List.getElem_cons_succ, List.getElem_cons_zero, List.setIfInBounds_toArray, List.set_cons_zero, List.set_cons_succ]
            refine wpAnyH_done (by kernel_rfl) ?_ _
            refine NoPanic.normal ?_
            have hb3 := Below_then hb hHeld.2.2
            clear hHeld
            try (refine hK _ _ ?_; clear hK K)
            go_wp2
            go_roundw
            case rel =>
              refine ⟨j + 2, by omega, by go_num, fun i hi => ?_, hb3⟩
              by_cases e : i = j + 1
              · subst e
                unfold okAt
                rw [HX.out, Nat.add_sub_cancel, HY.out]
                simp [← HQ.out]
                exact HL.out
              · exact HA.out i (by omega)
            case measure => simp [intOf]; omega
    · obtain rfl : k = zs.length := by omega
      have d1 : decide (zs.length < zs.length) = false := by simp
      have e : lsOk zs = decide (zs.length ≤ 10) := lsOk_len HA.out
      have HE := Lib.hid e
      clear e
      by_cases h10 : zs.length ≤ 10
      · have g1 : (zs.length : Int) ≤ 10 := by omega
        go_wp2
        go_ret
        exact ⟨retB (by rw [HE.out]; simpa using h10), hb⟩
      · have g1 : ¬ (zs.length : Int) ≤ 10 := by omega
        go_wp2
        go_ret
        exact ⟨retB (by rw [HE.out]; simpa using h10), hb⟩
set_option maxHeartbeats 2000000 in
theorem l17Has_any (A : Option Addr) (c : Nat) (zs : List ByteArray) (s : ByteArray) (w : World) (h : RdS w A zs) (hx : zs.length ≤ 1048576) :
    Calls Tryz.prog 61 #[.slice A zs.length c, .string s] w fun e w' => e = .returned (.bool (hasB zs s)) ∧ w = w' := by
  go_enter Tryz.func61, Tryz.ntmps61
  go_wp2_with fail
  go_loopw [5] (fun i wr => ∃ k : Nat, k ≤ zs.length ∧ i = .int .i64 k ∧ (∀ j x, j < k → zs[j]? = some x → x ≠ s) ∧ w = wr) (fun i _ => zs.length - (intOf i).toNat)
  case atStart => exact ⟨0, Nat.zero_le _, rfl, fun j _ hj => absurd hj (by omega), rfl⟩
  case round =>
    obtain ⟨k, hk, rfl, hall, rfl⟩ := hrel
    have HA := Lib.hid hall
    clear hall
    by_cases hlt : k < zs.length
    · obtain ⟨b, off, rfl, c1, -⟩ := h.at_ hlt
      obtain ⟨x, hx⟩ : ∃ x, x = zs[k] := ⟨_, rfl⟩
      rw [← hx] at c1
      have hxk : zs[k]? = some x := by rw [hx]; exact List.getElem?_eq_getElem hlt
      have HX := Lib.hid hxk
      have i1 : (k : Int) < (zs.length : Int) := by omega
      have d1 : decide (k < zs.length) = true := by simpa using hlt
      clear hx hxk
      by_cases he : x = s
      · have g1 : (x.toList == s.toList) = true := eqS_iff.2 he
        have HE := Lib.hid he
        clear he
        go_wp2
        go_ret
        exact ⟨retB (hasB_iff.2 (by rw [← HE.out]; exact List.mem_of_getElem? HX.out)).symm, rfl⟩
      · have g1 : (x.toList == s.toList) = false := eqS_ne he
        have HE := Lib.hid he
        clear he
        go_wp2
        go_roundw
        case rel =>
          refine ⟨k + 1, by omega, by go_num, fun j x' hj hx' => ?_, by first | trivial | rfl⟩
          by_cases e : j = k
          · subst e
            rw [HX.out] at hx'
            injection hx' with hx'
            subst hx'
            exact HE.out
          · exact HA.out j x' (by omega) hx'
        case measure => simp [intOf]; omega
    · obtain rfl : k = zs.length := by omega
      have d1 : decide (zs.length < zs.length) = false := by simp
      go_wp2
      go_ret
      refine ⟨retB ?_, rfl⟩
      symm
      rw [Bool.eq_false_iff]
      intro hh
      obtain ⟨j, hj⟩ := List.getElem?_of_mem (hasB_iff.1 hh)
      exact HA.out j s (List.getElem?_eq_some_iff.1 hj).1 hj rfl
end Go.Proofs.YtjkfmnmgelmbfaaGreatDoor
/-! ### Cnt -/
namespace Go.Proofs.YtjkfmnmgelmbfaaGreatDoor
open Go.ChangeShapes Go.WideShapes Go.ChangeAt Go.RowKit
set_option linter.unusedVariables false
set_option linter.unusedSimpArgs false
def cnt (a : ArmsD) (zs : List ByteArray) : Int := ((zs.filter (hasB (featL a))).length : Nat)
theorem num0 (w : World) : Calls Tryz.prog 75 #[.bool false] w fun e w' => e = .returned (.int .i64 0) ∧ w' = w := by
  go_enter Tryz.func75, Tryz.ntmps75
  go_wp2
  go_ret
  exact ⟨rfl, rfl⟩
theorem num1 (w : World) : Calls Tryz.prog 75 #[.bool true] w fun e w' => e = .returned (.int .i64 1) ∧ w' = w := by
  go_enter Tryz.func75, Tryz.ntmps75
  go_wp2
  go_ret
  exact ⟨rfl, rfl⟩
set_option maxHeartbeats 4000000 in
theorem shared_any (a : ArmsD) (ga : armsOk a = true) (A : Option Addr) (c : Nat) (zs : List ByteArray) (w : World) (h : RdS w A zs) (hx : zs.length ≤ 1048576) :
    Calls Tryz.prog 42 #[.agg (ac a).toArray, .slice A zs.length c] w fun e w' => e = .returned (.int .i64 (cnt a zs)) ∧ Below w.heap.size w w' := by
  have HB := Lib.hid (fun w' hb => boxR a (w := w) (w' := w') hb)
  have hW : Below w.heap.size w (w.alloc (.cells (ac a).toArray 52)) := Below_al (Below.refl _ _) _
  have KF := Lib.hid (fun w => features_any a ga w)
  have HFL := Lib.hid (featL_len a)
  unfold cnt
  clear ga
  obtain ⟨fs, hfs⟩ : ∃ fs, fs = featL a := ⟨_, rfl⟩
  rw [← hfs] at KF HFL
  rw [← hfs]
  clear hfs
  go_enter Tryz.func42, Tryz.ntmps42
  go_wp2_with (first | (refine ldA15 rfl _ rfl w.heap.size _ rfl a (HB.out _ (Below.refl _ _)) ?_) | fail)
  refine (KF.out _).mono ?_
  rintro e w1 ⟨v, rfl, hO, hb1⟩
  obtain ⟨A', c', rfl, hr⟩ := hO.form
  have hT := Below_then hW hb1
  have hz := h.below hT
  clear hb1 hW hO
  go_wp2_with fail
  go_loopw [5, 13] (fun n i wr => ∃ k : Nat, k ≤ zs.length ∧ i = .int .i64 k ∧ n = .int .i64 (((zs.take k).filter (hasB fs)).length : Nat) ∧ w1 = wr) (fun _ i _ => zs.length - (intOf i).toNat)
  case atStart => exact ⟨0, Nat.zero_le _, rfl, by simp, rfl⟩
  case round =>
    obtain ⟨k, hk, rfl, rfl, rfl⟩ := hrel
    by_cases hlt : k < zs.length
    · obtain ⟨b, off, rfl, c1, -⟩ := hz.at_ hlt
      obtain ⟨x, hxk⟩ : ∃ x, x = zs[k] := ⟨_, rfl⟩
      rw [← hxk] at c1
      have hst : (zs.take (k + 1)).filter (hasB fs) = (zs.take k).filter (hasB fs) ++ [x].filter (hasB fs) := by rw [List.take_succ_eq_append_getElem hlt, List.filter_append, hxk]
      have hln : ((zs.take k).filter (hasB fs)).length ≤ k := by
        have h1 := List.length_filter_le (hasB fs) (zs.take k)
        rw [List.length_take] at h1
        omega
      have hle : ((zs.take (k + 1)).filter (hasB fs)).length = ((zs.take k).filter (hasB fs)).length + ([x].filter (hasB fs)).length := by rw [hst, List.length_append]
      obtain ⟨m, hm⟩ : ∃ m, m = ((zs.take k).filter (hasB fs)).length := ⟨_, rfl⟩
      rw [← hm] at hln hle ⊢
      have HLE := Lib.hid hle
      have i1 : (k : Int) < (zs.length : Int) := by omega
      have d1 : decide (k < zs.length) = true := by simpa using hlt
      have KH := hasS_any A' c' fs x _ hr (by have := HFL.out; omega)
      obtain ⟨q, hq⟩ : ∃ q, q = hasB fs x := ⟨_, rfl⟩
      rw [← hq] at KH
      have KH := Lib.hid KH
      have HQ := Lib.hid hq
      clear hq hxk hst hm hle
      cases q
      · skip
        go_wp2_with fail
        refine KH.out.mono ?_
        rintro e w9 ⟨rfl, rfl⟩
        go_wp2_with fail
        refine (num0 _).mono ?_
        rintro e w9 ⟨rfl, rfl⟩
        go_wp2
        go_roundw
        case rel => exact ⟨k + 1, by omega, by go_num, by rw [HLE.out]; simp [← HQ.out], (by first | trivial | rfl)⟩
        case measure => simp [intOf]; omega
      · skip
        go_wp2_with fail
        refine KH.out.mono ?_
        rintro e w9 ⟨rfl, rfl⟩
        go_wp2_with fail
        refine (num1 _).mono ?_
        rintro e w9 ⟨rfl, rfl⟩
        go_wp2
        go_roundw
        case rel => exact ⟨k + 1, by omega, by go_num, by rw [HLE.out]; simp [← HQ.out], (by first | trivial | rfl)⟩
        case measure => simp [intOf]; omega
    · obtain rfl : k = zs.length := by omega
      have d1 : decide (zs.length < zs.length) = false := by simp
      rw [List.take_length]
      go_wp2
      go_ret
      exact ⟨rfl, hT⟩
set_option maxHeartbeats 4000000 in
theorem l17Count_any (a : ArmsD) (ga : armsOk a = true) (A : Option Addr) (c : Nat) (zs : List ByteArray) (w : World) (h : RdS w A zs) (hx : zs.length ≤ 1048576) :
    Calls Tryz.prog 36 #[.agg (ac a).toArray, .slice A zs.length c] w fun e w' => e = .returned (.int .i64 (cnt a zs)) ∧ Below w.heap.size w w' := by
  have HB := Lib.hid (fun w' hb => boxR a (w := w) (w' := w') hb)
  have hW : Below w.heap.size w (w.alloc (.cells (ac a).toArray 52)) := Below_al (Below.refl _ _) _
  have KF := Lib.hid (fun w => l17Features_any a ga w)
  have HFL := Lib.hid (featL_len a)
  unfold cnt
  clear ga
  obtain ⟨fs, hfs⟩ : ∃ fs, fs = featL a := ⟨_, rfl⟩
  rw [← hfs] at KF HFL
  rw [← hfs]
  clear hfs
  go_enter Tryz.func36, Tryz.ntmps36
  go_wp2_with (first | (refine ldA15 rfl _ rfl w.heap.size _ rfl a (HB.out _ (Below.refl _ _)) ?_) | fail)
  refine (KF.out _).mono ?_
  rintro e w1 ⟨v, rfl, hO, hb1⟩
  obtain ⟨A', c', rfl, hr⟩ := hO.form
  have hT := Below_then hW hb1
  have hz := h.below hT
  clear hb1 hW hO
  go_wp2_with fail
  go_loopw [5, 7] (fun n i wr => ∃ k : Nat, k ≤ zs.length ∧ i = .int .i64 k ∧ n = .int .i64 (((zs.take k).filter (hasB fs)).length : Nat) ∧ w1 = wr) (fun _ i _ => zs.length - (intOf i).toNat)
  case atStart => exact ⟨0, Nat.zero_le _, rfl, by simp, rfl⟩
  case round =>
    obtain ⟨k, hk, rfl, rfl, rfl⟩ := hrel
    by_cases hlt : k < zs.length
    · obtain ⟨b, off, rfl, c1, -⟩ := hz.at_ hlt
      obtain ⟨x, hxk⟩ : ∃ x, x = zs[k] := ⟨_, rfl⟩
      rw [← hxk] at c1
      have hst : (zs.take (k + 1)).filter (hasB fs) = (zs.take k).filter (hasB fs) ++ [x].filter (hasB fs) := by rw [List.take_succ_eq_append_getElem hlt, List.filter_append, hxk]
      have hln : ((zs.take k).filter (hasB fs)).length ≤ k := by
        have h1 := List.length_filter_le (hasB fs) (zs.take k)
        rw [List.length_take] at h1
        omega
      have hle : ((zs.take (k + 1)).filter (hasB fs)).length = ((zs.take k).filter (hasB fs)).length + ([x].filter (hasB fs)).length := by rw [hst, List.length_append]
      obtain ⟨m, hm⟩ : ∃ m, m = ((zs.take k).filter (hasB fs)).length := ⟨_, rfl⟩
      rw [← hm] at hln hle ⊢
      have HLE := Lib.hid hle
      have i1 : (k : Int) < (zs.length : Int) := by omega
      have d1 : decide (k < zs.length) = true := by simpa using hlt
      have KH := l17Has_any A' c' fs x _ hr (by have := HFL.out; omega)
      obtain ⟨q, hq⟩ : ∃ q, q = hasB fs x := ⟨_, rfl⟩
      rw [← hq] at KH
      have KH := Lib.hid KH
      have HQ := Lib.hid hq
      clear hq hxk hst hm hle
      cases q
      · skip
        go_wp2_with fail
        refine KH.out.mono ?_
        rintro e w9 ⟨rfl, rfl⟩
        go_wp2
        go_roundw
        case rel => exact ⟨k + 1, by omega, by go_num, by rw [HLE.out]; simp [← HQ.out], (by first | trivial | rfl)⟩
        case measure => simp [intOf]; omega
      · skip
        go_wp2_with fail
        refine KH.out.mono ?_
        rintro e w9 ⟨rfl, rfl⟩
        go_wp2
        go_roundw
        case rel => exact ⟨k + 1, by omega, by go_num, by rw [HLE.out]; simp [← HQ.out], (by first | trivial | rfl)⟩
        case measure => simp [intOf]; omega
    · obtain rfl : k = zs.length := by omega
      have d1 : decide (zs.length < zs.length) = false := by simp
      rw [List.take_length]
      go_wp2
      go_ret
      exact ⟨rfl, hT⟩
end Go.Proofs.YtjkfmnmgelmbfaaGreatDoor
/-! ### Look -/
namespace Go.Proofs.YtjkfmnmgelmbfaaGreatDoor
open Go.ChangeShapes Go.WideShapes Go.ChangeAt Go.RowKit
set_option linter.unusedVariables false
set_option linter.unusedSimpArgs false
theorem lookL_len (rows : List GrantD) (zs : List ByteArray) : (bif regOk rows && lsOk zs then nums rows (fun g => decide (cnt g.a zs = zs.length)) else []).length ≤ rows.length := by
  cases regOk rows && lsOk zs
  · simp
  · exact nums_len rows _
theorem cf_look (args : Array Value) (w : World) : (callFunc 41 args).run Tryz.prog w = .ok (.enter 41 args) w := by kernel_rfl
set_option maxHeartbeats 2000000 in
theorem look_cl (g : GrantD) (A2 : Option Addr) (c2 B : Nat) (zs : List ByteArray) (w : World) (gg : armsOk g.a = true) (hB : w.cell? ⟨B, 0, none⟩ = some (.slice A2 zs.length c2)) (h2 : RdS w A2 zs) (hx : zs.length ≤ 1048576) :
    Calls Tryz.prog 41 #[.agg (gc g).toArray, .pointer (some ⟨B, 0, none⟩)] w fun e w' => e = .returned (.bool (decide (cnt g.a zs = zs.length))) ∧ Below w.heap.size w w' := by
  have KC := Lib.hid (fun w' (hb : Below w.heap.size w w') => shared_any g.a gg A2 c2 zs w' (h2.below hb) hx)
  have hA := (gblk_cells (heap_hit w (.cells (gc g).toArray 70) _ rfl)).2.2.2
  have cB := keep_cell hB (Below_al (Below.refl w.heap.size w) (.cells (gc g).toArray 70))
  have hW : Below w.heap.size w (w.alloc (.cells (gc g).toArray 70)) := Below_al (Below.refl _ _) _
  obtain ⟨n, hn⟩ : ∃ n, n = cnt g.a zs := ⟨_, rfl⟩
  rw [← hn] at KC ⊢
  clear hn gg
  by_cases he : n = (zs.length : Int)
  all_goals
    have hq : (n == (zs.length : Int)) = decide (n = zs.length) := rfl
    go_enter Tryz.func41, Tryz.ntmps41
    go_wp2_with fail
    generalize w.alloc (.cells (gc g).toArray 70) = W0 at hA cB hW ⊢
    refine wp_region_noPanic ?_
    refine wp_region_held_drew (S := (fun w' => w'.rangeAt w.heap.size 3 (ac g.a) ∧ w'.cell? ⟨B, 0, none⟩ = some (.slice A2 zs.length c2 : Value) ∧ Below W0.heap.size W0 w')) (by kernel_rfl) ⟨hA, cB, (Below.refl _ _).drew⟩ (fun hHeld => ?_)
    refine wpAnyH_take (i := 0) (oi := _) (v := ?_) rfl (by kernel_rfl) (by kernel_rfl) (by kernel_rfl) (fun _ _ _ h => h) (Or.inl ⟨by rfl, ?_⟩) (by assumption) ?_
    rotate_left
    · intro w hSw; clear hSw; first | (go_simp; done) | (go_simp; with_reducible rfl)
    simp only [Act.put, List.getElem_toArray, List.getElem_cons_succ, List.getElem_cons_zero, List.setIfInBounds_toArray, List.set_cons_zero, List.set_cons_succ]
    refine wpAnyH_take (i := 1) (oi := _) (v := _) rfl ?g1_1 ?g2_1 ?g3_1 (fun _ _ _ h => h) (yieldsIf_load_mid ?g4_1 _ _ rfl w.heap.size ?oo_1 ?g5_1 (ac g.a) _ ?g6_1 Tryz.underlying52 rfl (info_ac g.a)) ?g7_1 ?_
    case g5_1 => rfl
    case g1_1 => kernel_rfl
    case g2_1 => kernel_rfl
    case g3_1 => kernel_rfl
    case g6_1 => exact (fun _ h => h.1)
    case g4_1 => kernel_rfl
    case g7_1 => assumption
    simp only [Act.put, List.getElem_toArray, List.getElem_cons_succ, List.getElem_cons_zero, List.setIfInBounds_toArray, List.set_cons_zero, List.set_cons_succ]
    refine wpAnyH_take (i := 2) (oi := _) (v := ?_) rfl (by kernel_rfl) (by kernel_rfl) (by kernel_rfl) (fun _ _ _ h => h) (Or.inl ⟨by rfl, ?_⟩) (by assumption) ?_
    rotate_left
    · intro w hSw; (try dsimp only at hSw); first | (go_simp; done) | (go_simp; with_reducible rfl)
    simp only [Act.put, List.getElem_toArray, List.getElem_cons_succ, List.getElem_cons_zero, List.setIfInBounds_toArray, List.set_cons_zero, List.set_cons_succ]
    refine wpAnyH_take (i := 4) (oi := _) (v := ?_) rfl (by kernel_rfl) (by kernel_rfl) (by kernel_rfl) (fun _ _ _ h => h) (Or.inl ⟨by rfl, ?_⟩) (by assumption) ?_
    rotate_left
    · intro w hSw; (try dsimp only at hSw); first | (go_simp; done) | (go_simp; with_reducible rfl)
    simp only [Act.put, List.getElem_toArray, List.getElem_cons_succ, List.getElem_cons_zero, List.setIfInBounds_toArray, List.set_cons_zero, List.set_cons_succ]
    refine wpAnyH_take (i := 5) (oi := _) (v := ?_) rfl (by kernel_rfl) (by kernel_rfl) (by kernel_rfl) (fun _ _ _ h => h) (Or.inl ⟨by rfl, ?_⟩) (by assumption) ?_
    rotate_left
    · intro w hSw; clear hSw; first | (go_simp; done) | (go_simp; with_reducible rfl)
    simp only [Act.put, List.getElem_toArray, List.getElem_cons_succ, List.getElem_cons_zero, List.setIfInBounds_toArray, List.set_cons_zero, List.set_cons_succ]
    refine wpAnyH_ready (rs := [3]) (by kernel_rfl) (by simp) ?_
    refine AllReadyH.cons (o := _) rfl (fun K hK => ?_) AllReadyH.nil
    go_simp
    refine (KC.out _ (Below_then hW hHeld.2.2)).mono ?_
    rintro e x2 ⟨rfl, hx2⟩
    go_wp2_with fail
    refine hK.out _ _ ⟨rangeAt_below hHeld.1 hx2, keep_cell hHeld.2.1 hx2, Below_then hHeld.2.2 hx2⟩ (fun hHeld => ?_)
    clear hK K
    try simp only [Act.put, List.getElem_toArray, List.getElem_cons_succ, List.getElem_cons_zero, List.setIfInBounds_toArray, List.set_cons_zero, List.set_cons_succ]
    refine wpAnyH_take (i := 6) (oi := _) (v := ?_) rfl (by kernel_rfl) (by kernel_rfl) (by kernel_rfl) (fun _ _ _ h => h) (Or.inl ⟨by rfl, ?_⟩) (by assumption) ?_
    rotate_left
    · intro w hSw; clear hSw; first | (go_simp; done) | (go_simp; with_reducible rfl)
    simp only [Act.put, List.getElem_toArray, List.getElem_cons_succ, List.getElem_cons_zero, List.setIfInBounds_toArray, List.set_cons_zero, List.set_cons_succ]
    refine wpAnyH_take (i := 7) (oi := _) (v := ?_) rfl (by kernel_rfl) (by kernel_rfl) (by kernel_rfl) (fun _ _ _ h => h) (Or.inl ⟨by rfl, ?_⟩) (by assumption) ?_
    rotate_left
    · intro w hSw; clear hSw; first | (go_simp; done) | (go_simp; with_reducible rfl)
    simp only [Act.put, List.getElem_toArray, List.getElem_cons_succ, List.getElem_cons_zero, List.setIfInBounds_toArray, List.set_cons_zero, List.set_cons_succ]
    refine wpAnyH_done (by kernel_rfl) ?_ _
    refine NoPanic.normal ?_
    have hb := hW.trans (hHeld.2.2.mono hW.size)
    clear hHeld
    try (refine hK _ _ ?_; clear hK K)
    go_wp2
    go_ret
    exact ⟨by first | rfl | simp [he], hb⟩
set_option maxHeartbeats 2000000 in
theorem implLookUp_any (A : Option Addr) (c : Nat) (rows : List GrantD) (A2 : Option Addr) (c2 : Nat) (zs : List ByteArray) (w : World) (hr : RdR 18 w A (gcs rows)) (hl : rows.length ≤ 1048576) (hs : ∀ g ∈ rows, g.s.size ≤ maxLen) (h2 : RdS w A2 zs) (hx : zs.length ≤ 1048576) (hm : ∀ s ∈ zs, s.size ≤ maxLen) (hcap : rows.length ≤ c) (hcm : c ≤ maxLen) :
    Calls Tryz.prog 13 #[.agg #[.slice A rows.length c], .slice A2 zs.length c2] w (IntsOk w (bif regOk rows && lsOk zs then nums rows (fun g => decide (cnt g.a zs = zs.length)) else []) (regOk rows && lsOk zs)) := by
  have KV := Lib.hid (fun (w' : World) (hb : Below w.heap.size w w') => IsValidRegister_any A c rows w' (hr.below hb) hl hs hcap hcm)
  have KL := Lib.hid (fun (w' : World) (hb : Below w.heap.size w w') => areFeatures_any A2 c2 zs w' (h2.below hb) hx hm)
  have HH := Lib.hid hr
  have H2 := Lib.hid h2
  clear hs hm hr h2
  cases q : regOk rows
  · rw [q] at KV
    clear q KL
    go_enter Tryz.func13, Tryz.ntmps13
    go_wp2_with fail
    refine (KV.out _ (Below_al (Below_al (Below.refl _ _) _) _)).mono ?_
    rintro e w1 ⟨rfl, hb1⟩
    have hR := heap_keepB (heap_keepA (heap_hit w (.cells #[.slice A rows.length c] 33) _ rfl) (.cells #[.slice A2 zs.length c2] 25)) hb1
    have hF := heap_keepB (heap_hit (w.alloc (.cells #[.slice A rows.length c] 33)) (.cells #[.slice A2 zs.length c2] 25) (w.heap.size + 1) (by simp)) hb1
    have cR := cell_of hR 0
    have cF := cell_of hF 0
    have hT : Below w.heap.size w w1 := Below_then (Below_al (Below_al (Below.refl _ _) _) _) hb1
    clear hb1
    go_wp2
    go_ret2
    exact ⟨_, rfl, OwnI.nil _ _ _, hT⟩
  · rw [q] at KV
    cases q2 : lsOk zs
    · rw [q2] at KL
      clear q q2
      go_enter Tryz.func13, Tryz.ntmps13
      go_wp2_with fail
      refine (KV.out _ (Below_al (Below_al (Below.refl _ _) _) _)).mono ?_
      rintro e w1 ⟨rfl, hb1⟩
      have hR := heap_keepB (heap_keepA (heap_hit w (.cells #[.slice A rows.length c] 33) _ rfl) (.cells #[.slice A2 zs.length c2] 25)) hb1
      have hF := heap_keepB (heap_hit (w.alloc (.cells #[.slice A rows.length c] 33)) (.cells #[.slice A2 zs.length c2] 25) (w.heap.size + 1) (by simp)) hb1
      have cR := cell_of hR 0
      have cF := cell_of hF 0
      have hT : Below w.heap.size w w1 := Below_then (Below_al (Below_al (Below.refl _ _) _) _) hb1
      clear hb1
      go_wp2_with fail
      refine (KL.out _ hT).mono ?_
      rintro e w2 ⟨rfl, hb2⟩
      have hT := Below_then hT hb2
      clear hb2 hR hF cR cF
      go_wp2
      go_ret2
      exact ⟨_, rfl, OwnI.nil _ _ _, hT⟩
    · rw [q2] at KL
      have HQ := Lib.hid q
      clear q q2
      go_enter Tryz.func13, Tryz.ntmps13
      go_wp2_with fail
      refine (KV.out _ (Below_al (Below_al (Below.refl _ _) _) _)).mono ?_
      rintro e w1 ⟨rfl, hb1⟩
      have hR := heap_keepB (heap_keepA (heap_hit w (.cells #[.slice A rows.length c] 33) _ rfl) (.cells #[.slice A2 zs.length c2] 25)) hb1
      have hF := heap_keepB (heap_hit (w.alloc (.cells #[.slice A rows.length c] 33)) (.cells #[.slice A2 zs.length c2] 25) (w.heap.size + 1) (by simp)) hb1
      have cR := cell_of hR 0
      have cF := cell_of hF 0
      have hT : Below w.heap.size w w1 := Below_then (Below_al (Below_al (Below.refl _ _) _) _) hb1
      clear hb1
      go_wp2_with fail
      refine (KL.out _ hT).mono ?_
      rintro e w2 ⟨rfl, hb2⟩
      have hT := Below_then hT hb2
      have hR := heap_keepB hR hb2
      have hF := heap_keepB hF hb2
      have cR := cell_of hR 0
      have cF := Lib.hid (cell_of hF 0)
      have hsz := hT.size
      clear hb2 hF
      go_wp2_with fail
      refine (numbers_any 41 #[.pointer (some ⟨w.heap.size + 1, 0, none⟩)] A c rows (fun g => decide (cnt g.a zs = zs.length)) w2 (HH.out.below hT) hl cf_look (fun g w' hg hb => look_cl g A2 c2 (w.heap.size + 1) zs w' (regOk_mem HQ.out hg) (keep_cell cF.out hb) ((H2.out.below hT).below hb) hx)).mono ?_
      rintro e w3 ⟨v, rfl, hO, hb3⟩
      have hT3 := Below_then hT hb3
      clear hb3 hR cR hT
      go_wp2
      go_ret2
      exact ⟨_, rfl, OwnI.base hO hsz, hT3⟩
set_option maxHeartbeats 4000000 in
theorem specLookUp_any (A : Option Addr) (c : Nat) (rows : List GrantD) (A2 : Option Addr) (c2 : Nat) (zs : List ByteArray) (w : World) (hr : RdR 18 w A (gcs rows)) (hl : rows.length ≤ 1048576) (hs : ∀ g ∈ rows, g.s.size ≤ maxLen) (h2 : RdS w A2 zs) (hx : zs.length ≤ 1048576) (hm : ∀ s ∈ zs, s.size ≤ maxLen) :
    Calls Tryz.prog 10 #[.agg #[.slice A rows.length c], .slice A2 zs.length c2] w (IntsOk w (bif regOk rows && lsOk zs then nums rows (fun g => decide (cnt g.a zs = zs.length)) else []) (regOk rows && lsOk zs)) := by
  have KV := Lib.hid (fun (w' : World) (hb : Below w.heap.size w w') => l16Good_any A c rows w' (hr.below hb) hl hs)
  have KL := Lib.hid (fun (w' : World) (hb : Below w.heap.size w w') => l17List_any A2 c2 zs w' (h2.below hb) hx hm)
  have HH := Lib.hid hr
  have H2 := Lib.hid h2
  have hO0 : OwnI ((w.alloc (.cells #[.slice A rows.length c] 33)).alloc (.cells #[] 3)) (w.heap.size + 1) 3 (.slice (some ⟨w.heap.size + 1, 0, none⟩) 0 0) [] := OwnI.none0 _ _ _ (by simp) (by omega)
  clear hs hm hr h2
  cases q : regOk rows
  · rw [q] at KV
    clear q KL
    go_enter Tryz.func10, Tryz.ntmps10
    go_wp2_with fail
    refine (KV.out _ (Below_al (Below_al (Below.refl _ _) _) _)).mono ?_
    rintro e w1 ⟨rfl, hb1⟩
    have hR := heap_keepB (heap_keepA (heap_hit w (.cells #[.slice A rows.length c] 33) _ rfl) (.cells #[] 3)) hb1
    have cR := cell_of hR 0
    have hT : Below w.heap.size w w1 := Below_then (Below_al (Below_al (Below.refl _ _) _) _) hb1
    have hO := hO0.below hb1
    clear hb1 hO0
    go_wp2
    go_ret2
    exact ⟨_, rfl, OwnI.base hO (by omega), hT⟩
  · rw [q] at KV
    cases q2 : lsOk zs
    · rw [q2] at KL
      clear q q2
      go_enter Tryz.func10, Tryz.ntmps10
      go_wp2_with fail
      refine (KV.out _ (Below_al (Below_al (Below.refl _ _) _) _)).mono ?_
      rintro e w1 ⟨rfl, hb1⟩
      have hR := heap_keepB (heap_keepA (heap_hit w (.cells #[.slice A rows.length c] 33) _ rfl) (.cells #[] 3)) hb1
      have cR := cell_of hR 0
      have hT : Below w.heap.size w w1 := Below_then (Below_al (Below_al (Below.refl _ _) _) _) hb1
      have hO := hO0.below hb1
      clear hb1 hO0
      go_wp2_with fail
      refine (KL.out _ hT).mono ?_
      rintro e w2 ⟨rfl, hb2⟩
      have hT := Below_then hT hb2
      have hO := hO.below hb2
      clear hb2 hR cR
      go_wp2
      go_ret2
      exact ⟨_, rfl, OwnI.base hO (by omega), hT⟩
    · rw [q2] at KL
      have HQ := Lib.hid q
      clear q q2
      go_enter Tryz.func10, Tryz.ntmps10
      go_wp2_with fail
      refine (KV.out _ (Below_al (Below_al (Below.refl _ _) _) _)).mono ?_
      rintro e w1 ⟨rfl, hb1⟩
      have hR := heap_keepB (heap_keepA (heap_hit w (.cells #[.slice A rows.length c] 33) _ rfl) (.cells #[] 3)) hb1
      have cR := cell_of hR 0
      have hT : Below w.heap.size w w1 := Below_then (Below_al (Below_al (Below.refl _ _) _) _) hb1
      have hO := hO0.below hb1
      clear hb1 hO0
      go_wp2_with fail
      refine (KL.out _ hT).mono ?_
      rintro e w2 ⟨rfl, hb2⟩
      have hT := Below_then hT hb2
      have hO := hO.below hb2
      have hR := heap_keepB hR hb2
      clear hb2 cR
      go_wp2_with fail
      go_loopw [6, 7] (fun o i wr => ∃ (k : Nat) (v : Value), k ≤ rows.length ∧ i = .int .i64 k ∧ o = v ∧ OwnI wr (w.heap.size + 1) 3 v (nums (rows.take k) (fun g => decide (cnt g.a zs = zs.length))) ∧ wr.heap[w.heap.size]? = some (.cells #[.slice A rows.length c] 33 (0, 0)) ∧ Below w.heap.size w wr) (fun _ i _ => rows.length - (intOf i).toNat)
      case atStart => exact ⟨0, _, Nat.zero_le _, rfl, rfl, by simpa [nums] using hO, hR, hT⟩
      case round =>
        clear hO hR hT
        obtain ⟨k, v, hk, rfl, hov, hO, hH, hb⟩ := hrel
        replace hov := hov.symm
        subst hov
        have cH := cell_of hH 0
        by_cases hlt : k < rows.length
        · obtain ⟨g, hg⟩ := grant_at hlt
          obtain ⟨b, off, rfl, hr, -⟩ := (HH.out.below hb).grants hg
          obtain ⟨cn, -, -, hga⟩ := gc_cells hr
          have hlen := nums_take rows (fun g => decide (cnt g.a zs = zs.length)) k hk
          have i1 : (k : Int) < (rows.length : Int) := by omega
          have d1 : decide (k < rows.length) = true := by simpa using hlt
          have KC := Lib.hid (fun (w' : World) (hb : Below w.heap.size w w') => l17Count_any g.a (regOk_arms HQ.out hg) A2 c2 zs w' (H2.out.below hb) hx)
          have HG := Lib.hid hg
          have hws := hb.size
          have hAl := heap_lt hH
          obtain ⟨n, hn⟩ : ∃ n, n = cnt g.a zs := ⟨_, rfl⟩
          rw [← hn] at KC
          have HN := Lib.hid hn
          clear hg hn
          by_cases he : n = (zs.length : Int)
          · have hq : (n == (zs.length : Int)) = true := by simpa using he
            have HP := Lib.hid (show decide (cnt g.a zs = (zs.length : Int)) = true by rw [← HN.out]; simpa using he)
            clear he
            go_wp2_with (first | (refine ldA15 rfl _ rfl b _ rfl g.a hga ?_) | fail)
            refine (KC.out _ hb).mono ?_
            rintro e w9 ⟨rfl, sb⟩
            have hO := hO.below sb
            have hH := heap_keepB hH sb
            have hb := Below_then hb sb
            have cn := keep_cell cn sb
            have cH := cell_of hH 0
            have hws := hb.size
            have hAl := heap_lt hH
            have hne := ownBlock_ne (b := w.heap.size) (hO.alloc (.cells #[.int .i64 g.n] 3)) (.inl (by omega))
            clear sb
            go_wp2_with (first | (at_builtin; refine wp_appI rfl _ _ rfl (w.heap.size + 1) _ (nums (rows.take k) (fun g => decide (cnt g.a zs = zs.length))) rfl (hO.alloc _) _ _ rfl (cell_of (heap_hit _ _ _ rfl) 0) ?c1 ?c2 ?_; rotate_left 2; intro v' w9 hO9 hG9 hL9) | fail)
            try (case c1 => omega)
            try (case c2 => (simp; omega))
            have hH9 := heap_keepG (heap_keepA hH _) hG9 hne
            have hT9 := (Below_al hb _).trans (hL9.mono (by omega))
            clear hG9 hL9 hO hH cH hne
            go_wp2
            go_roundw
            case rel => exact ⟨k + 1, _, by omega, by go_num, rfl, by rw [nums_yes HG.out HP.out]; exact hO9, hH9, hT9⟩
            case measure => simp [intOf]; omega
          · have hq : (n == (zs.length : Int)) = false := by simpa using he
            have HP := Lib.hid (show decide (cnt g.a zs = (zs.length : Int)) = false by rw [← HN.out]; simpa using he)
            clear he
            go_wp2_with (first | (refine ldA15 rfl _ rfl b _ rfl g.a hga ?_) | fail)
            refine (KC.out _ hb).mono ?_
            rintro e w9 ⟨rfl, sb⟩
            have hO := hO.below sb
            have hH := heap_keepB hH sb
            have hb := Below_then hb sb
            clear sb cH
            go_wp2
            go_roundw
            case rel => exact ⟨k + 1, _, by omega, by go_num, rfl, by rw [nums_no HG.out HP.out]; exact hO, hH, hb⟩
            case measure => simp [intOf]; omega
        · obtain rfl : k = rows.length := by omega
          have d1 : decide (rows.length < rows.length) = false := by simp
          rw [List.take_length] at hO
          go_wp2
          go_ret2
          exact ⟨_, rfl, OwnI.base hO (by omega), hb⟩
end Go.Proofs.YtjkfmnmgelmbfaaGreatDoor
/-! ### Strs3 -/
namespace Go.Proofs.YtjkfmnmgelmbfaaGreatDoor
open Go.ChangeShapes Go.WideShapes Go.ChangeAt Go.RowKit Go.Deep
set_option linter.unusedVariables false
set_option linter.unusedSimpArgs false
set_option maxHeartbeats 1000000 in
theorem toStringS_any (A : Option Addr) (c : Nat) (zs : List ByteArray) (w : World) (h : RdS w A zs) (hx : zs.length ≤ 1048576) :
    Calls Tryz.prog 12 #[.slice A zs.length c] w fun e w' => ∃ g, e = .returned (.slice (some ⟨g, 0, none⟩) zs.length zs.length) ∧ OwnS w' w.heap.size 9 (.slice (some ⟨g, 0, none⟩) zs.length zs.length) zs ∧ Below w.heap.size w w' := by
  obtain ⟨i0, hi, hz0, hz1, hz2⟩ := info_parts info_str
  go_enter Tryz.func12, Tryz.ntmps12
  go_wp2_with (first | (at_make; refine wpList_make_full _ rfl _ _ 25 rfl w.heap.size 9 i0 _ 1 Tryz.underlying25 hi hz0 hz1 .i64 .i64 _ _ zs.length rfl rfl rfl rfl ?c1 ?c2 (Nat.le_refl _) ?_) | fail)
  case c1 => rw [hz2]; omega
  case c2 => unfold maxLen; omega
  intro w1 hown hgr
  rw [made_strs, ← copyS_zero] at hown
  have hown' : OwnS w1 w.heap.size 9 (.slice (some ⟨w.heap.size, 0, none⟩) zs.length zs.length) (copyS zs 0) := by
    unfold OwnS
    rw [copyS_len zs 0 (by omega)]
    exact hown
  have hb1 := below_of_none hgr
  clear hown hgr
  go_wp2_with fail
  go_loopw [4] (fun i wr => ∃ k : Nat, k ≤ zs.length ∧ i = .int .i64 k ∧ OwnS wr w.heap.size 9 (.slice (some ⟨w.heap.size, 0, none⟩) zs.length zs.length) (copyS zs k) ∧ Below w.heap.size w wr) (fun i _ => zs.length - (intOf i).toNat)
  case atStart => exact ⟨0, Nat.zero_le _, rfl, hown', hb1⟩
  case round =>
    obtain ⟨k, hk, rfl, hown, hb⟩ := hrel
    have hlen := copyS_len zs k hk
    by_cases hlt : k < zs.length
    · obtain ⟨b, off, rfl, hc1, hbl⟩ := (h.below hb).at_ hlt
      rw [← hlen] at hown
      have hc := hown.cellAt k (by omega)
      have hf := hown.frozenAt k
      obtain ⟨x, ex⟩ : ∃ x, x = (copyS zs k)[k]'(by omega) := ⟨_, rfl⟩
      rw [← ex] at hc
      have hset := hown.set k (zs[k])
      rw [copyS_set zs k hlt, hlen] at hset
      obtain ⟨y, ey⟩ : ∃ y, y = zs[k] := ⟨_, rfl⟩
      rw [← ey] at hset hc1
      have i1 : (k : Int) < (zs.length : Int) := by omega
      have d1 : decide (k < zs.length) = true := by simpa using hlt
      clear ex ey hown hlen
      go_wp2
      go_roundw
      case rel => exact ⟨k + 1, by omega, by go_num, hset, hb.setCell (Nat.le_refl _) _⟩
      case measure => simp [intOf]; omega
    · have hk' : k = zs.length := by omega
      have d1 : decide (k < zs.length) = false := by simpa using hlt
      subst hk'
      rw [copyS_all] at hown
      go_wp2
      go_ret
      exact ⟨_, rfl, hown, hb⟩
/-- What is left of a size. -/
def szS (zs : List ByteArray) (left : Int) : Int := if (zs.length : Int) + lens zs ≤ left then left - zs.length - lens zs else -1
set_option maxHeartbeats 1000000 in
theorem szStringS_any (A : Option Addr) (c : Nat) (zs : List ByteArray) (left : Int) (w : World) (h : RdS w A zs) (hl : 0 ≤ left ∧ left ≤ 1099511627776) (hm : zs.length ≤ maxLen) (hs : ∀ s ∈ zs, s.size ≤ maxLen) :
    Calls Tryz.prog 9 #[.slice A zs.length c, .int .i64 left] w fun e w' => e = .returned (.int .i64 (szS zs left)) ∧ Below w.heap.size w w' := by
  unfold maxLen at hm
  by_cases hn : (zs.length : Int) ≤ left
  · go_enter Tryz.func9, Tryz.ntmps9
    go_wp2_with fail
    go_loopw [1, 5] (fun l i wr => ∃ k : Nat, k ≤ zs.length ∧ i = .int .i64 k ∧ (zs.length : Int) + lens (zs.take k) ≤ left ∧ l = .int .i64 (left - zs.length - lens (zs.take k)) ∧ Below w.heap.size w wr) (fun _ i _ => zs.length - (intOf i).toNat)
    case atStart => exact ⟨0, Nat.zero_le _, rfl, by simpa [lens] using hn, by simp [lens], Below.refl _ _⟩
    case round =>
      obtain ⟨k, hk, rfl, hle, rfl, hb⟩ := hrel
      by_cases hlt : k < zs.length
      · obtain ⟨b, off, rfl, hc1, hbl⟩ := (h.below hb).at_ hlt
        have hlt2 := lens_take hlt
        have hmem := hs _ (List.getElem_mem hlt)
        have hle2 := lens_le zs (k + 1)
        obtain ⟨y, ey⟩ : ∃ y, y = zs[k] := ⟨_, rfl⟩
        rw [← ey] at hc1 hlt2 hmem
        obtain ⟨t, ht⟩ : ∃ t : Nat, t = lens (zs.take k) := ⟨_, rfl⟩
        rw [← ht] at hle hlt2 ⊢
        unfold maxLen at hmem
        have HT := Lib.hid hlt2
        have HL := Lib.hid hle2
        clear ey ht hlt2 hle2
        by_cases hgo : (zs.length : Int) + t + y.size ≤ left
        · have g1 : ¬ (left - (zs.length : Int) - (t : Int) - (y.size : Int) < 0) := by omega
          go_wp2
          go_roundw
          case rel =>
            have h2 := HT.out
            exact ⟨k + 1, by omega, by go_num, by rw [h2]; push_cast; omega, by rw [h2]; congr 1; push_cast; omega, hb⟩
          case measure => simp [intOf]; omega
        · have g1 : left - (zs.length : Int) - (t : Int) - (y.size : Int) < 0 := by omega
          go_wp2
          go_ret
          refine ⟨retI ?_, hb⟩
          have h2 := HT.out
          have h3 := HL.out
          unfold szS
          rw [if_neg (by omega)]
      · obtain rfl : k = zs.length := by omega
        rw [List.take_length] at hle ⊢
        have d1 : decide (zs.length < zs.length) = false := by simp
        go_wp2
        go_ret
        refine ⟨retI ?_, hb⟩
        unfold szS
        rw [if_pos hle]
  · go_enter Tryz.func9, Tryz.ntmps9
    have g1 : left - (zs.length : Int) < 0 := by omega
    go_wp2
    go_ret
    refine ⟨retI ?_, Below.refl _ _⟩
    unfold szS
    rw [if_neg (by omega)]
section
variable {H : Type} {enc : TypeId × Value → H} {w : World} {base : Nat} {spare : Nat → Bool} {held : Bool} {r : Reach} {b0 : Nat} {v : Value} {d : DataW H} {p : List MemPlace}
theorem cells_str1 : Tryz.prog.cellsOf 9 = 1 := by kernel_rfl
set_option maxRecDepth 20000 in
theorem openStrings (hv : Value.okWide Tryz.prog w r b0 25 v) (h : DataW.Trod enc Tryz.prog w base spare held 25 v d p) :
    ∃ (A : Option Addr) (c : Nat) (zs : List ByteArray), v = .slice A zs.length c ∧ RdS w A zs ∧ zs.length ≤ maxLen ∧ ∀ s ∈ zs, s.size ≤ maxLen := by
  obtain ⟨fuel, hf⟩ := h
  obtain ⟨A0, n0, c0, rfl⟩ := okWide_slice Tryz.underlying25 hv
  rcases open_strs Tryz.underlying25 Tryz.underlying9 cells_str1 hf with ⟨hcs, -⟩ | ⟨a, len, cap, m, Sx, hcs, -, hl, hm, hmm, -, hx⟩
  · simp [Value.cells] at hcs
    obtain ⟨rfl, rfl, rfl⟩ := hcs
    exact ⟨none, 0, [], rfl, RdS.nil _ _, by simp [maxLen], by simp⟩
  · simp [Value.cells] at hcs
    obtain ⟨rfl, rfl, rfl⟩ := hcs
    have hge : n0 ≤ m := by rw [hmm]; split <;> omega
    refine ⟨some a, c0, (List.range n0).map Sx, by simp, ?_, by simp; omega, fun s hs => ?_⟩
    · by_cases h0 : n0 = 0
      · subst h0
        exact .inl rfl
      · have hsp : a.spot = none := by
          have h1 := (hx 0 (by omega)).1
          rw [Addr.add, if_pos rfl] at h1
          simp only [World.cell?] at h1
          split at h1
          · split at h1
            · cases h1
            · next hh => simpa using hh
          · cases h1
        obtain ⟨b, off, sp⟩ := a
        simp at hsp
        subst hsp
        refine .inr ⟨b, off, rfl, fun i hi => ?_⟩
        have hi' : i < n0 := by simpa [sv] using hi
        have h1 := (hx i (by omega)).1
        have e1 : (Addr.add ⟨b, off, none⟩ i : Addr) = ⟨b, off + i, none⟩ := by
          unfold Addr.add
          split
          · next h => subst h; rfl
          · rfl
        rw [e1] at h1
        rw [h1, sv_get]
        simp
    · obtain ⟨i, hi, rfl⟩ := List.mem_map.1 hs
      exact (hx i (by have := List.mem_range.1 hi; omega)).2
end
end Go.Proofs.YtjkfmnmgelmbfaaGreatDoor
namespace Go.Proofs.YtjkfmnmgelmbfaaGreatDoor.fnExactLookUp
open Go.ChangeShapes Go.WideShapes Go.ChangeAt Go.RowKit
set_option linter.unusedVariables false

theorem eqI {A A' : Option Addr} {c c' B B' : Nat} (xs : List Int) (w : World) (h1 : OwnI w B 3 (.slice A xs.length c) xs) (h2 : OwnI w B' 3 (.slice A' xs.length c') xs) (hx : xs.length ≤ 1048576) :
    Calls Tryz.prog 14 #[.slice A xs.length c, .slice A' xs.length c'] w fun e w' => e = .returned (.bool true) ∧ Below w.heap.size w w' := by
  obtain ⟨A1, c1, e1, r1⟩ := h1.form
  obtain ⟨A2, c2, e2, r2⟩ := h2.form
  injection e1 with e1 _ e1'
  injection e2 with e2 _ e2'
  subst e1 e1' e2 e2'
  exact (eqIntS_any _ _ _ _ xs xs w r1 r2 (by omega) (by omega)).mono fun _ _ ⟨he, hw⟩ => ⟨by rw [he]; simp, hw⟩
theorem heldIK {A : Option Addr} {c B : Nat} (xs : List Int) (k0 : Int) (w : World) (h : OwnI w B 3 (.slice A xs.length c) (marks k0 xs.length)) (hx : xs.length ≤ 1048576) (h0 : 0 ≤ k0) (h1 : k0 ≤ 1048577) :
    Calls Tryz.prog 20 #[.slice A xs.length c, .int .i64 k0] w fun e w' => e = .returned (.int .i64 (k0 + xs.length)) ∧ Below w.heap.size w w' := by
  obtain ⟨A1, c1, e1, r1⟩ := h.form
  rw [marks_len] at e1
  injection e1 with e1 _ e1'
  subst e1 e1'
  have := heldIntS_any A c (marks k0 xs.length) k0 w r1 (by rw [marks_len]; omega) (by omega) (by omega)
  rw [heldR_marks, marks_len] at this
  exact this
theorem eqSt {A A' : Option Addr} {c c' B B' : Nat} (xs : List ByteArray) (w : World) (h1 : OwnS w B 9 (.slice A xs.length c) xs) (h2 : OwnS w B' 9 (.slice A' xs.length c') xs) (hx : xs.length ≤ 1048576) :
    Calls Tryz.prog 16 #[.slice A xs.length c, .slice A' xs.length c'] w fun e w' => e = .returned (.bool true) ∧ Below w.heap.size w w' := by
  obtain ⟨A1, c1, e1, r1⟩ := h1.form
  obtain ⟨A2, c2, e2, r2⟩ := h2.form
  injection e1 with e1 _ e1'
  injection e2 with e2 _ e2'
  subst e1 e1' e2 e2'
  exact (eqStringS_any _ _ _ _ xs xs w r1 r2 (by omega) (by omega)).mono fun _ _ ⟨he, hw⟩ => ⟨by rw [he]; simp, hw⟩
theorem rdOf {A : Option Addr} {n c B : Nat} {T : TypeId} {zs : List ByteArray} {w : World} (h : OwnS w B T (.slice A n c) zs) : RdS w A zs := by
  obtain ⟨A', c', e, hr⟩ := h.form
  injection e with e
  subst e
  exact hr
theorem own_apart {w w' : World} {B B' s s' n n' : Nat} {T T' : TypeId} {v v' : Value} {xs xs' : List Value} (h : w.ownsRow B T s v n xs) (h' : w'.ownsRow B' T' s' v' n' xs') (hs : w.heap.size ≤ B') : v.ownBlock = none ∨ v.ownBlock ≠ v'.ownBlock := by
  cases e : v.ownBlock with
  | none => exact .inl rfl
  | some k => exact .inr fun e2 => by have h1 := World.ownsRow.lt h k e; have h2 := World.ownsRow.lt h' k e2.symm; omega
theorem apart_symm {a b : Option Nat} (h : a = none ∨ a ≠ b) : b = none ∨ b ≠ a := by
  rcases h with h | h
  · subst h
    cases b
    · exact .inl rfl
    · exact .inr (by simp)
  · exact .inr fun e => h e.symm
set_option maxHeartbeats 8000000 in
theorem walk (w : World) (A0 : Option Addr) (c0 : Nat) (z0 : List GrantD) (u0 : RdR 18 w A0 (gcs z0)) (l0 : z0.length ≤ maxLen) (s0 : ∀ g ∈ z0, g.s.size ≤ maxLen) (A1 : Option Addr) (c1 : Nat) (z1 : List ByteArray) (u1 : RdS w A1 z1) (l1 : z1.length ≤ maxLen) (m1 : ∀ s ∈ z1, s.size ≤ maxLen) :
    Calls Tryz.prog 3 #[.agg #[.slice A0 z0.length c0], .slice A1 z1.length c1] w fun e w' => e = .returned (.bool true) ∧ Below w.heap.size w w' := by
  go_enter Tryz.func3, Tryz.ntmps3
  go_wp2_with fail
  refine (szRegister_any A0 c0 z0 1048576 _ (u0.below (by (repeat (first | exact Below.refl _ _ | assumption | refine Below_al ?_ _ | refine Below.drew ?_ | refine Below_then ?_ (by assumption) | refine Below.setCell ?_ (by first | omega | (simp; done) | (simp; omega)) _)))) (by omega) (by omega) l0 s0).mono ?_
  rintro e y0 ⟨y, rfl, hy, hy0⟩
  have hT : Below w.heap.size w y0 := by (repeat (first | exact Below.refl _ _ | assumption | refine Below_al ?_ _ | refine Below.drew ?_ | refine Below_then ?_ (by assumption) | refine Below.setCell ?_ (by first | omega | (simp; done) | (simp; omega)) _))
  have hF : y0.heap[w.heap.size]? = some (.cells #[.slice A0 z0.length c0] 24 (0, 0)) := heap_keepB (heap_hit _ _ _ rfl) hy0
  clear hy0
  rcases hy with rfl | ⟨q0, q1, q2⟩
  · go_wp2
    go_ret
    exact ⟨rfl, hT⟩
  have HS := Lib.hid q2
  have hyn : ¬ y < 0 := by omega
  go_wp2_with fail
  refine (szStringS_any A1 c1 z1 y _ (u1.below hT) (by omega) l1 m1).mono ?_
  rintro e y00 ⟨rfl, hb⟩
  have hT := Below_then hT hb
  have hF := heap_keepB hF hb
  clear hb
  by_cases hs : (z1.length : Int) + lens z1 ≤ y
  · have hr0 : ¬ szS z1 y < 0 := by unfold szS; rw [if_pos hs]; omega
    generalize szS z1 y = r at hr0 ⊢
    have hzl : z1.length ≤ 1048576 := by omega
    obtain ⟨zs0, ok, hzl0, KS, KI⟩ : ∃ (zs0 : List Int) (ok : Bool), zs0.length ≤ 1048576 ∧ (∀ (A A2 : Option Addr) (c2 : Nat) (w : World), RdR 18 w A (gcs z0) → RdS w A2 z1 → Calls Tryz.prog 10 #[.agg #[.slice A z0.length z0.length], .slice A2 z1.length c2] w (IntsOk w zs0 ok)) ∧ (∀ (A A2 : Option Addr) (c2 : Nat) (w : World), RdR 18 w A (gcs z0) → RdS w A2 z1 → Calls Tryz.prog 13 #[.agg #[.slice A z0.length z0.length], .slice A2 z1.length c2] w (IntsOk w zs0 ok)) := ⟨_, _, Nat.le_trans (lookL_len z0 z1) HS.out, fun A A2 c2 w h h2 => specLookUp_any A z0.length z0 A2 c2 z1 w h HS.out s0 h2 hzl m1, fun A A2 c2 w h h2 => implLookUp_any A z0.length z0 A2 c2 z1 w h HS.out s0 h2 hzl m1 (Nat.le_refl _) l0⟩
    have KS' := Lib.hid KS
    have KI' := Lib.hid KI
    have hM2 : ¬ (1 + 18 * (z0.length : Int) + (z1.length : Int) < 0) := by omega
    have hM30 : ¬ (1 + (zs0.length : Int) < 0) := by omega
    have hz0 : z0.length ≤ 1048576 := q2
    clear KS KI l0 s0 l1 m1 q0 q1 q2 hyn hs
    cases ok
    all_goals
      have chF := cell_of hF 0
      go_wp2_with fail
      refine (toRegister_any A0 c0 z0 _ (u0.below hT) HS.out).mono ?_
      rintro e y1 ⟨g1, rfl, ho1, hb⟩
      replace hT := Below_then hT hb
      replace hF := heap_keepB hF hb
      clear chF
      clear hb
      go_wp2_with fail
      refine (toStringS_any A1 c1 z1 _ (u1.below hT) hzl).mono ?_
      rintro e y2 ⟨g2, rfl, ho2, hb⟩
      replace hT := Below_then hT hb
      replace hF := heap_keepB hF hb
      replace ho1 := ho1.below hb
      clear hb
      go_wp2_with fail
      refine (KS'.out _ _ _ _ ho1.rd (rdOf ho2)).mono ?_
      rintro e y3 ⟨vW0, rfl, hoW0, hb⟩
      replace hT := Below_then hT hb
      replace hF := heap_keepB hF hb
      clear hb ho1 ho2
      obtain ⟨sA0, sc0, rfl, -⟩ := hoW0.form
      have chF := cell_of hF 0
      go_wp2_with fail
      refine (toRegister_any A0 c0 z0 _ (u0.below hT) HS.out).mono ?_
      rintro e y4 ⟨gx, rfl, hoX, hb⟩
      have P_hoW0_hoX := Lib.hid (show (Value.ownBlock (.slice sA0 zs0.length sc0)) = none ∨ (Value.ownBlock (.slice sA0 zs0.length sc0)) ≠ some gx from .inr fun e => by have := (hoW0.lt _ e).2; have := hoX.low; omega)
      have Q_hF_hoX := Lib.hid (show some gx ≠ some (w.heap.size) from fun e => by injection e with e; have := heap_lt hF; have := hoX.low; omega)
      have T_hoX := Lib.hid (show ∀ k, some gx = some k → w.heap.size ≤ k from fun k hk => by injection hk with hk; have := hoX.low; have := hT.size; omega)
      replace hT := Below_then hT hb
      replace hF := heap_keepB hF hb
      replace hoW0 := hoW0.below hb
      clear chF
      clear hb
      replace hT := Below_al hT (.cells #[.slice (some ⟨gx, 0, none⟩) z0.length z0.length] 33 (0, 0))
      replace hF := heap_keepA hF (.cells #[.slice (some ⟨gx, 0, none⟩) z0.length z0.length] 33 (0, 0))
      replace hoW0 := hoW0.below (Below_al (Below.refl _ _) (.cells #[.slice (some ⟨gx, 0, none⟩) z0.length z0.length] 33 (0, 0)))
      replace hoX := hoX.below (Below_al (Below.refl _ _) (.cells #[.slice (some ⟨gx, 0, none⟩) z0.length z0.length] 33 (0, 0)))
      have hX : (y4.alloc (.cells #[.slice (some ⟨gx, 0, none⟩) z0.length z0.length] 33 (0, 0))).heap[y4.heap.size]? = some (.cells #[.slice (some ⟨gx, 0, none⟩) z0.length z0.length] 33 (0, 0)) := heap_hit _ _ _ rfl
      go_wp2_with fail
      refine (toStringS_any A1 c1 z1 _ (u1.below hT) hzl).mono ?_
      rintro e y5 ⟨gy, rfl, hoY, hb⟩
      have P_hoW0_hoY := Lib.hid (own_apart hoW0 hoY (Nat.le_refl _))
      have P_hoX_hoY := Lib.hid (show some gx = none ∨ some gx ≠ (Value.slice (some ⟨gy, 0, none⟩) z1.length z1.length).ownBlock from .inr fun e => by have := (hoY.lt _ e.symm).1; have := heap_lt hoX.blk; omega)
      have Q_hF_hoY := Lib.hid (show (Value.slice (some ⟨gy, 0, none⟩) z1.length z1.length).ownBlock ≠ some (w.heap.size) from fun e => by have := (hoY.lt _ e).1; have := heap_lt hF; omega)
      have Q_hX_hoY := Lib.hid (show (Value.slice (some ⟨gy, 0, none⟩) z1.length z1.length).ownBlock ≠ some (y4.heap.size) from fun e => by have := (hoY.lt _ e).1; have := heap_lt hX; omega)
      have T_hoY := Lib.hid (show ∀ k, (Value.slice (some ⟨gy, 0, none⟩) z1.length z1.length).ownBlock = some k → w.heap.size ≤ k from fun k hk => by have := (hoY.lt k hk).1; have := hT.size; omega)
      replace hT := Below_then hT hb
      replace hF := heap_keepB hF hb
      replace hX := heap_keepB hX hb
      replace hoW0 := hoW0.below hb
      replace hoX := hoX.below hb
      clear hb
      have chX := cell_of hX 0
      go_wp2_with fail
      refine (KI'.out _ _ _ _ hoX.rd (rdOf hoY)).mono ?_
      rintro e y6 ⟨vG0, rfl, hoG0, hb⟩
      have P_hoW0_hoG0 := Lib.hid (own_apart hoW0 hoG0 (Nat.le_refl _))
      have P_hoX_hoG0 := Lib.hid (show some gx = none ∨ some gx ≠ vG0.ownBlock from .inr fun e => by have := (hoG0.lt _ e.symm).1; have := heap_lt hoX.blk; omega)
      have P_hoY_hoG0 := Lib.hid (own_apart hoY hoG0 (Nat.le_refl _))
      have Q_hF_hoG0 := Lib.hid (show vG0.ownBlock ≠ some (w.heap.size) from fun e => by have := (hoG0.lt _ e).1; have := heap_lt hF; omega)
      have Q_hX_hoG0 := Lib.hid (show vG0.ownBlock ≠ some (y4.heap.size) from fun e => by have := (hoG0.lt _ e).1; have := heap_lt hX; omega)
      have T_hoG0 := Lib.hid (show ∀ k, vG0.ownBlock = some k → w.heap.size ≤ k from fun k hk => by have := (hoG0.lt k hk).1; have := hT.size; omega)
      replace hT := Below_then hT hb
      replace hF := heap_keepB hF hb
      replace hX := heap_keepB hX hb
      replace hoW0 := hoW0.below hb
      replace hoX := hoX.below hb
      replace hoY := hoY.below hb
      clear chX
      clear hb
      obtain ⟨gA0, gc0, rfl, -⟩ := hoG0.form
      go_wp2_with fail
      refine (eqI zs0 _ hoG0 hoW0 hzl0).mono ?_
      rintro e y7 ⟨rfl, hb⟩
      replace hT := Below_then hT hb
      replace hF := heap_keepB hF hb
      replace hX := heap_keepB hX hb
      replace hoW0 := hoW0.below hb
      replace hoX := hoX.below hb
      replace hoY := hoY.below hb
      replace hoG0 := hoG0.below hb
      clear hb
      have chX := cell_of hX 0
      have chF := cell_of hF 0
      have cX := chX
      have cF := chF
      clear chX chF
      go_wp2_with fail
      refine wp_region_noPanic ?_
      refine wp_region_held_drew (S := (fun w' => w'.cell? ⟨y4.heap.size, 0, none⟩ = some (.slice (some ⟨gx, 0, none⟩) z0.length z0.length : Value) ∧ w'.cell? ⟨w.heap.size, 0, none⟩ = some (.slice A0 z0.length c0 : Value) ∧ Below y7.heap.size y7 w')) (by kernel_rfl) ⟨cX, cF, (Below.refl _ _).drew⟩ (fun hHeld => ?_)
      refine wpAnyH_take (i := 0) (oi := _) (v := ?_) rfl (by kernel_rfl) (by kernel_rfl) (by kernel_rfl) (fun _ _ _ h => h) (Or.inl ⟨by rfl, ?_⟩) (by assumption) ?_
      rotate_left
      · intro w hSw; (try dsimp only at hSw); first | (go_simp; done) | (go_simp; with_reducible rfl)
      simp only [Act.put, List.getElem_toArray, List.getElem_cons_succ, List.getElem_cons_zero, List.setIfInBounds_toArray, List.set_cons_zero, List.set_cons_succ]
      refine wpAnyH_take (i := 1) (oi := _) (v := ?_) rfl (by kernel_rfl) (by kernel_rfl) (by kernel_rfl) (fun _ _ _ h => h) (Or.inl ⟨by rfl, ?_⟩) (by assumption) ?_
      rotate_left
      · intro w hSw; (try dsimp only at hSw); first | (go_simp; done) | (go_simp; with_reducible rfl)
      simp only [Act.put, List.getElem_toArray, List.getElem_cons_succ, List.getElem_cons_zero, List.setIfInBounds_toArray, List.set_cons_zero, List.set_cons_succ]
      refine wpAnyH_ready (rs := [2]) (by kernel_rfl) (by simp) ?_
      refine AllReadyH.cons (o := _) rfl (fun K hK => ?_) AllReadyH.nil
      go_simp
      refine (toRegister_any A0 c0 z0 _ (u0.below (Below_then hT hHeld.2.2)) HS.out).mono ?_
      rintro e v1 ⟨vg, rfl, vo, vh1⟩
      go_wp2_with fail
      refine hK.out _ _ ⟨keep_cell hHeld.1 vh1, keep_cell hHeld.2.1 vh1, Below_then hHeld.2.2 vh1⟩ (fun hHeld => ?_)
      clear hK K
      try simp only [Act.put, List.getElem_toArray, List.getElem_cons_succ, List.getElem_cons_zero, List.setIfInBounds_toArray, List.set_cons_zero, List.set_cons_succ]
      refine wpAnyH_ready (rs := [3]) (by kernel_rfl) (by simp) ?_
      refine AllReadyH.cons (o := _) rfl (fun K hK => ?_) AllReadyH.nil
      go_simp
      refine (eqRegister_same _ _ _ _ z0 _ (hoX.rd.below hHeld.2.2) vo.rd HS.out).mono ?_
      rintro e v2 ⟨rfl, vh2⟩
      go_wp2_with fail
      refine hK.out _ _ ⟨keep_cell hHeld.1 vh2, keep_cell hHeld.2.1 vh2, Below_then hHeld.2.2 vh2⟩ (fun hHeld => ?_)
      clear hK K
      try simp only [Act.put, List.getElem_toArray, List.getElem_cons_succ, List.getElem_cons_zero, List.setIfInBounds_toArray, List.set_cons_zero, List.set_cons_succ]
      refine wpAnyH_take (i := 4) (oi := _) (v := ?_) rfl (by kernel_rfl) (by kernel_rfl) (by kernel_rfl) (fun _ _ _ h => h) (Or.inl ⟨by rfl, ?_⟩) (by assumption) ?_
      rotate_left
      · intro w hSw; clear hSw; first | (go_simp; done) | (go_simp; with_reducible rfl)
      simp only [Act.put, List.getElem_toArray, List.getElem_cons_succ, List.getElem_cons_zero, List.setIfInBounds_toArray, List.set_cons_zero, List.set_cons_succ]
      refine wpAnyH_done (by kernel_rfl) ?_ _
      refine NoPanic.normal ?_
      have hb := hHeld.2.2
      clear hHeld vh1 vh2 vo cX cF
      replace hT := Below_then hT hb
      replace hF := heap_keepB hF hb
      replace hX := heap_keepB hX hb
      replace hoW0 := hoW0.below hb
      replace hoX := hoX.below hb
      replace hoY := hoY.below hb
      replace hoG0 := hoG0.below hb
      clear hb
      go_wp2_with fail
      refine (toStringS_any A1 c1 z1 _ (u1.below hT) hzl).mono ?_
      rintro e y8 ⟨g8, rfl, ho8, hb⟩
      replace hT := Below_then hT hb
      replace hF := heap_keepB hF hb
      replace hX := heap_keepB hX hb
      replace hoW0 := hoW0.below hb
      replace hoX := hoX.below hb
      replace hoY := hoY.below hb
      replace hoG0 := hoG0.below hb
      clear hb
      go_wp2_with fail
      refine (eqSt z1 _ hoY ho8 hzl).mono ?_
      rintro e y9 ⟨rfl, hb⟩
      replace hT := Below_then hT hb
      replace hF := heap_keepB hF hb
      replace hX := heap_keepB hX hb
      replace hoW0 := hoW0.below hb
      replace hoX := hoX.below hb
      replace hoY := hoY.below hb
      replace hoG0 := hoG0.below hb
      clear hb ho8
      have chX := cell_of hX 0
      have hBk := hoX.toBlk
      rw [gcs_len] at hBk
      go_wp2_with fail
      refine (markRegister_any gx z0.length z0.length 1 _ hBk HS.out (by omega) (by omega)).mono ?_
      rintro e y10 ⟨rfl, hg⟩
      replace hT := hT.grown hg hT.size T_hoX.out
      replace hF := heap_keepG hF hg Q_hF_hoX.out
      replace hoW0 := hoW0.other hg P_hoW0_hoX.out
      replace hoY := hoY.other hg (apart_symm P_hoX_hoY.out)
      replace hoG0 := hoG0.other hg (apart_symm P_hoX_hoG0.out)
      clear hg hoX hX
      clear hBk chX
      go_wp2_with fail
      refine (markStringS_any _ _ z1 (1 + 18 * (z0.length : Int)) _ hoY hzl (by omega) (by omega)).mono ?_
      rintro e y11 ⟨rfl, -, hg⟩
      replace hT := hT.grown hg hT.size T_hoY.out
      replace hF := heap_keepG hF hg Q_hF_hoY.out
      replace hoW0 := hoW0.other hg P_hoW0_hoY.out
      replace hoG0 := hoG0.other hg (apart_symm P_hoY_hoG0.out)
      clear hg hoY
      go_wp2_with fail
      refine (eqI zs0 _ hoG0 hoW0 hzl0).mono ?_
      rintro e y12 ⟨rfl, hb⟩
      replace hT := Below_then hT hb
      replace hF := heap_keepB hF hb
      replace hoW0 := hoW0.below hb
      replace hoG0 := hoG0.below hb
      clear hb
      go_wp2_with fail
      refine (markIntS_any _ _ zs0 1 _ hoG0 (by omega) (by omega) (by omega)).mono ?_
      rintro e y13 ⟨rfl, hmG0, hg⟩
      replace hT := hT.grown hg hT.size T_hoG0.out
      replace hF := heap_keepG hF hg Q_hF_hoG0.out
      replace hoW0 := hoW0.other hg P_hoW0_hoG0.out
      clear hg hoG0
      go_wp2_with fail
      refine (heldIK zs0 1 _ hmG0 (by omega) (by omega) (by omega)).mono ?_
      rintro e y14 ⟨rfl, hb⟩
      replace hT := Below_then hT hb
      replace hF := heap_keepB hF hb
      replace hoW0 := hoW0.below hb
      replace hmG0 := hmG0.below hb
      clear hb
      have chF := cell_of hF 0
      go_wp2_with fail
      refine (toRegister_any A0 c0 z0 _ (u0.below hT) HS.out).mono ?_
      rintro e y15 ⟨g3, rfl, ho3, hb⟩
      replace hT := Below_then hT hb
      replace hF := heap_keepB hF hb
      replace hoW0 := hoW0.below hb
      replace hmG0 := hmG0.below hb
      clear chF
      clear hb
      clear hF
      go_wp2_with fail
      refine (toStringS_any A1 c1 z1 _ (u1.below hT) hzl).mono ?_
      rintro e y16 ⟨g4, rfl, ho4, hb⟩
      replace hT := Below_then hT hb
      replace hoW0 := hoW0.below hb
      replace hmG0 := hmG0.below hb
      replace ho3 := ho3.below hb
      clear hb
      go_wp2_with fail
      refine (KI'.out _ _ _ _ ho3.rd (rdOf ho4)).mono ?_
      rintro e y17 ⟨vH0, rfl, hoH0, hb⟩
      replace hT := Below_then hT hb
      replace hoW0 := hoW0.below hb
      replace hmG0 := hmG0.below hb
      clear hb ho3 ho4
      obtain ⟨hA0, hc0, rfl, -⟩ := hoH0.form
      go_wp2_with fail
      refine (eqI zs0 _ hoH0 hoW0 hzl0).mono ?_
      rintro e y18 ⟨rfl, hb⟩
      replace hT := Below_then hT hb
      replace hoW0 := hoW0.below hb
      replace hmG0 := hmG0.below hb
      replace hoH0 := hoH0.below hb
      clear hb
      go_wp2_with fail
      refine (heldIK zs0 1 _ hmG0 (by omega) (by omega) (by omega)).mono ?_
      rintro e y19 ⟨rfl, hb⟩
      replace hT := Below_then hT hb
      replace hoW0 := hoW0.below hb
      replace hmG0 := hmG0.below hb
      replace hoH0 := hoH0.below hb
      clear hb
      go_wp2
      go_ret
      exact ⟨rfl, hT⟩
  · rw [show szS z1 y = -1 from if_neg hs]
    go_wp2
    go_ret
    exact ⟨rfl, hT⟩

/-! ### The row's step: written by a program of mine (frame.py) after the kit's shell -/
theorem laidOut : laidOutB Tryz.prog = true := by kernel_rfl
theorem door_met (os : Os) (args : Array Value) : laidMetH Tryz.prog Rows.fnExactLookUpRow.laid ((World.doorLaid Tryz.prog 400 os).forCall (fun _ _ => 0) ⟨#[], args, []⟩).memory :=
  laidMetH_of_parts3 (fuel := 8) (laidMet_of_run' 8 (by kernel_rfl) (by kernel_rfl)) (by kernel_rfl) (by kernel_rfl)
set_option maxRecDepth 100000 in
theorem lifted (os : Os) (started : os.Started) (H : Type) (enc : TypeId × Value → H) :
    ReturnsInHanded {} Tryz.checked os 3 .any (fun w args => (Rows.fnExactLookUpSpec.pre enc Tryz.prog Tryz.f3 [] false w args ∧ laidMetH Tryz.prog Rows.fnExactLookUpRow.laid w) ∧ sizedMet enc Tryz.prog Tryz.f3 (OpenSpec.ofChange Rows.fnExactLookUpSpec) false w args)
      (Rows.fnExactLookUpSpec.post enc Tryz.prog Tryz.f3 false true false false) := by
  refine returnsInHanded_of_change_and (C := Tryz.checked) (X := fun w _ => laidMetH Tryz.prog Rows.fnExactLookUpRow.laid w) (fun _ _ _ hh h => h.of_heap hh) own started (by kernel_rfl) Tryz.func3
    (ChangeSpec.witness_shaped (enc := enc) (C := Tryz.checked) (os := os) (X := fun w _ => laidMetH Tryz.prog Rows.fnExactLookUpRow.laid w) false (World.doorLaid Tryz.prog 400 os) #[.agg #[.slice none 0 0], .slice none 0 0] 8 rfl (World.shaped_of_RefB (by kernel_rfl) (by kernel_rfl)) (by kernel_rfl) (by kernel_rfl) (by kernel_rfl) (door_met os _)) ?_
  intro W base args ds gs before hval0 hW hcnd _ hL _
  try simp only [List.append_nil] at hW
  have hval : ∀ (j : Nat) t v, Tryz.f3.params[j]? = some t → args[j]? = some v → Value.okWide Tryz.prog W .any base t v := hval0
  have hW' := hW
  obtain ⟨p, q, hA0, hV, rfl, hfz, hnd⟩ := hW
  have hA : DataW.TrodAll enc Tryz.prog W 0 (fun _ => true) true Tryz.f3.params.toList args.toList ds p := hA0
  rw [Tryz.params3] at hA hval
  obtain ⟨v0, vs0, d0, ds0, p0, q0, hargs, rfl, rfl, h0, r0⟩ := trodAll_cons hA
  obtain ⟨v1, vs1, d1, ds1, p1, q1, rfl, rfl, rfl, h1, r1⟩ := trodAll_cons r0
  obtain ⟨rfl, rfl, rfl⟩ := trodAll_nil r1
  obtain rfl : args = #[v0, v1] := by cases args; simp_all
  obtain ⟨rfl, rfl⟩ := trodVars_none hV
  have k0 := h0
  have lt0 : ∀ x ∈ p0, x.block < W.heap.size := by obtain ⟨m, hm⟩ := k0; exact DataW.trod_lt m _ _ _ hm
  obtain ⟨A0, c0, z0, rfl, u0, l0, s0⟩ := openRegister (hval 0 24 v0 rfl rfl) h0
  have k1 := h1
  have lt1 : ∀ x ∈ p1, x.block < W.heap.size := by obtain ⟨m, hm⟩ := k1; exact DataW.trod_lt m _ _ _ hm
  obtain ⟨A1, c1, z1, rfl, u1, l1, w1⟩ := openStrings (hval 1 25 v1 rfl rfl) h1
  clear hA0 hval0
  refine (walk W A0 c0 z0 u0 l0 s0 A1 c1 z1 u1 l1 w1).mono fun e W' ⟨he, bel⟩ => ?_
  subst he
  exact ⟨_, rfl, _, _, _, [], _, [], hW', trodAll_mk1 (shut_bool Tryz.underlying4 _), (trodAll_cons_mk (Below.trod laidOut (by kernel_rfl) (of_decide_eq_true (by kernel_rfl)) k0 bel lt0) (trodAll_cons_mk (Below.trod laidOut (by kernel_rfl) (of_decide_eq_true (by kernel_rfl)) k1 bel lt1) trodAll_mk0)), rfl, bel.frame _, fun h => by cases h⟩

theorem over : Rows.FnExactLookUpSaid :=
  OpenClaim.holds_of_wide 3 Tryz.f3 rfl rfl rfl rfl rfl rfl rfl ⟨rfl, rfl, rfl, rfl, rfl⟩ rfl rfl rfl rfl rfl (by kernel_rfl) Tryz.func3 (by kernel_rfl)
    (of_decide_eq_true (by kernel_rfl)) (by unfold Func.isWrapper; first | (rw [if_pos (by decide +kernel)]; kernel_rfl) | (rw [if_neg (by decide +kernel)]; exact ⟨rfl, rfl⟩))
    (fun os started H enc _ => lifted os started H enc)

theorem proved : Rows.FnExactLookUpCardSaid :=
  Claim7.holds_tied_plain_at .later [] Rows.fnExactLookUpCard.laidKinds true Rows.fnExactLookUpCard.stood.harness false
    over (fun _ h => by cases h) (by kernel_rfl) (fun _ h => by cases h) fnExactLookUp_row_tie rfl ⟨rfl, rfl⟩ (by kernel_rfl) rfl
    (fun f fn hf hfn => by
      obtain rfl : f = 3 := Option.some.inj ((show Tryz.prog.funcNamed Rows.fnExactLookUpRow.func = some 3 by kernel_rfl).symm.trans hf) |>.symm
      obtain rfl : fn = Tryz.f3 := (Option.some.inj (Tryz.func3.symm.trans hfn)).symm
      exact ⟨by kernel_rfl, fun j t ht => by
        rw [Tryz.params3] at ht
        have hm : t ∈ ([24, 25] : List TypeId) := by simpa using Array.mem_of_getElem? ht
        have hall : (([24, 25] : List TypeId).all fun u => !Tryz.prog.wantsStandIn u) = true := by kernel_rfl
        exact (show Tryz.prog.wantsStandIn t = false by simpa using List.all_eq_true.1 hall t hm)⟩)
    (by kernel_rfl)
#print axioms proved

end Go.Proofs.YtjkfmnmgelmbfaaGreatDoor.fnExactLookUp
