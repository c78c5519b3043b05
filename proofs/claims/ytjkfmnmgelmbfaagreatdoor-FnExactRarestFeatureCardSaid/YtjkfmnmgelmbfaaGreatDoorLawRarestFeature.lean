/- FnExactRarestFeature: for all arguments RarestFeature of the program returns what RarestFeature of the reference returns, leaves its arguments as they are, in memory of its own. No condition. -/
import Derived.Test.YtjkfmnmgelmbfaaGreatDoorFeat2
import Derived.Test.YtjkfmnmgelmbfaaGreatDoorStrs2
import Derived.Test.YtjkfmnmgelmbfaaGreatDoorFeat5
import Derived.Test.YtjkfmnmgelmbfaaGreatDoorConf
import Derived.Test.YtjkfmnmgelmbfaaGreatDoorNums
import Derived.Deep.Strs
import Derived.Test.YtjkfmnmgelmbfaaGreatDoorRows
import Derived.Test.YtjkfmnmgelmbfaaGreatDoorGrMark
import Derived.Test.YtjkfmnmgelmbfaaGreatDoorGrOpen
import Derived.Test.YtjkfmnmgelmbfaaGreatDoorInts
import Derived.Test.YtjkfmnmgelmbfaaGreatDoorCards
import Derived.Test.YtjkfmnmgelmbfaaGreatDoorTie
import Derived.ProofKit
import Derived.LaidMore
import Derived.OpenShut
import Derived.Stop.Joined
import Derived.SevenTiedAt
/-! ### List -/
namespace Go.Proofs.YtjkfmnmgelmbfaaGreatDoor
open Go.ChangeShapes Go.WideShapes Go.ChangeAt Go.RowKit
set_option linter.unusedVariables false
set_option linter.unusedSimpArgs false
/-- The feature at a place is one, and stands behind the one ahead of it. -/
def okAt (zs : List ByteArray) (i : Nat) : Bool :=
  match zs[i]? with
  | none => true
  | some x => hasB FEATS x && (decide (i = 0) || match zs[i - 1]? with | none => true | some y => ltS y x)
def lsOk (zs : List ByteArray) : Bool := (List.range zs.length).all (okAt zs) && decide (zs.length ≤ 10)
theorem lsOk_no {zs : List ByteArray} {k : Nat} {x : ByteArray} (hx : zs[k]? = some x) (h : okAt zs k = false) : lsOk zs = false := by
  have hk := (List.getElem?_eq_some_iff.1 hx).1
  unfold lsOk
  rw [Bool.and_eq_false_iff]
  left
  rw [List.all_eq_false]
  exact ⟨k, List.mem_range.2 hk, by rw [h]; simp⟩
theorem lsOk_len {zs : List ByteArray} (h : ∀ j, j < zs.length → okAt zs j = true) : lsOk zs = decide (zs.length ≤ 10) := by
  unfold lsOk
  rw [List.all_eq_true.2 fun j hj => h j (List.mem_range.1 hj), Bool.true_and]
theorem lsOk_small {zs : List ByteArray} (h : lsOk zs = true) : zs.length ≤ 10 := by
  unfold lsOk at h
  rw [Bool.and_eq_true] at h
  exact of_decide_eq_true h.2
set_option maxHeartbeats 2000000 in
theorem areFeatures_any (A : Option Addr) (c : Nat) (zs : List ByteArray) (w : World) (h : RdS w A zs) (hx : zs.length ≤ 1048576) (hs : ∀ s ∈ zs, s.size ≤ maxLen) :
    Calls Tryz.prog 39 #[.slice A zs.length c] w fun e w' => e = .returned (.bool (lsOk zs)) ∧ Below w.heap.size w w' := by
  go_enter Tryz.func39, Tryz.ntmps39
  go_wp2_with fail
  go_loopw [7] (fun i wr => ∃ k : Nat, k ≤ zs.length ∧ i = .int .i64 k ∧ (∀ j, j < k → okAt zs j = true) ∧ Below w.heap.size w wr) (fun i _ => zs.length - (intOf i).toNat)
  case atStart => exact ⟨0, Nat.zero_le _, rfl, fun j hj => absurd hj (by omega), Below.refl _ _⟩
  case round =>
    obtain ⟨k, hk, rfl, hall, hb⟩ := hrel
    have HA := Lib.hid hall
    clear hall
    by_cases hlt : k < zs.length
    · obtain ⟨b, off, rfl, c1, -⟩ := (h.below hb).at_ hlt
      obtain ⟨x, hx⟩ : ∃ x, x = zs[k] := ⟨_, rfl⟩
      rw [← hx] at c1
      have hxm : x.size ≤ maxLen := by rw [hx]; exact hs _ (List.getElem_mem _)
      have hxk : zs[k]? = some x := by rw [hx]; exact List.getElem?_eq_getElem hlt
      have HX := Lib.hid hxk
      have i1 : (k : Int) < (zs.length : Int) := by omega
      have d1 : decide (k < zs.length) = true := by simpa using hlt
      obtain ⟨q, hq⟩ : ∃ q, q = hasB FEATS x := ⟨_, rfl⟩
      have KI := Lib.hid (fun w => implIsFeature_any x w)
      rw [← hq] at KI
      have HQ := Lib.hid hq
      clear hx hxm hxk hq
      cases q
      · skip
        go_wp2_with fail
        refine (KI.out _).mono ?_
        rintro e w2 ⟨rfl, hb2⟩
        have hb3 := Below_then hb hb2
        clear hb2
        go_wp2
        go_ret
        exact ⟨retB (lsOk_no HX.out (by unfold okAt; rw [HX.out]; simp [← HQ.out])).symm, hb3⟩
      · cases k with
        | zero =>
          simp only [Nat.add_zero] at c1
          go_wp2_with fail
          refine (KI.out _).mono ?_
          rintro e w2 ⟨rfl, hb2⟩
          have hb3 := Below_then hb hb2
          clear hb2
          go_wp2
          go_roundw
          case rel =>
            refine ⟨1, by omega, by go_num, fun j hj => ?_, hb3⟩
            obtain rfl : j = 0 := by omega
            unfold okAt
            rw [HX.out]
            simp [← HQ.out]
          case measure => simp [intOf]; omega
        | succ j =>
          obtain ⟨b', off', e1, c2, -⟩ := (h.below hb).at_ (show j < zs.length by omega)
          injection e1 with e1
          injection e1 with e1 e2
          subst e1 e2
          obtain ⟨y, hy⟩ : ∃ y, y = zs[j] := ⟨_, rfl⟩
          rw [← hy] at c2
          have hyj : zs[j]? = some y := by rw [hy]; exact List.getElem?_eq_getElem (by omega)
          have HY := Lib.hid hyj
          have f1 : (0 : Int) ≤ (j : Int) + 1 := by omega
          have f2 : (j : Int) + 1 < (zs.length : Int) := by omega
          have f3 : IntKind.i64.wrap (j : Int) = (j : Int) := by rw [IntKind.wrap_i64]; omega
          have f4 : (j : Int) < (zs.length : Int) := by omega
          have f5 : (0 : Int) < (j : Int) + 1 := by omega
          clear hy hyj
          cases hl : Op.bytesLess y.toList x.toList
          · have HL := Lib.hid hl
            go_wp2_with fail
            refine (KI.out _).mono ?_
            rintro e w2 ⟨rfl, hb2⟩
            have hb3 := Below_then hb hb2
            have c2 := keep_cell c2 hb2
            clear hb2
            go_wp2
            go_ret
            exact ⟨retB (lsOk_no HX.out (by unfold okAt; rw [HX.out, Nat.add_sub_cancel, HY.out]; simp [← HQ.out]; exact HL.out)).symm, hb3⟩
          · have HL := Lib.hid hl
            go_wp2_with fail
            refine (KI.out _).mono ?_
            rintro e w2 ⟨rfl, hb2⟩
            have hb3 := Below_then hb hb2
            have c2 := keep_cell c2 hb2
            clear hb2
            go_wp2
            go_roundw
            case rel =>
              refine ⟨j + 2, by omega, by go_num, fun i hi => ?_, hb3⟩
              by_cases e : i = j + 1
              · subst e
                unfold okAt
                rw [HX.out, Nat.add_sub_cancel, HY.out]
                simp [← HQ.out]
                exact HL.out
              · exact HA.out i (by omega)
            case measure => simp [intOf]; omega
    · obtain rfl : k = zs.length := by omega
      have d1 : decide (zs.length < zs.length) = false := by simp
      have e : lsOk zs = decide (zs.length ≤ 10) := lsOk_len HA.out
      have HE := Lib.hid e
      clear e
      by_cases h10 : zs.length ≤ 10
      · have g1 : (zs.length : Int) ≤ 10 := by omega
        go_wp2
        go_ret
        exact ⟨retB (by rw [HE.out]; simpa using h10), hb⟩
      · have g1 : ¬ (zs.length : Int) ≤ 10 := by omega
        go_wp2
        go_ret
        exact ⟨retB (by rw [HE.out]; simpa using h10), hb⟩
set_option maxHeartbeats 4000000 in
theorem l17List_any (A : Option Addr) (c : Nat) (zs : List ByteArray) (w : World) (h : RdS w A zs) (hx : zs.length ≤ 1048576) (hs : ∀ s ∈ zs, s.size ≤ maxLen) :
    Calls Tryz.prog 35 #[.slice A zs.length c] w fun e w' => e = .returned (.bool (lsOk zs)) ∧ Below w.heap.size w w' := by
  go_enter Tryz.func35, Tryz.ntmps35
  go_wp2_with fail
  go_loopw [3] (fun i wr => ∃ k : Nat, k ≤ zs.length ∧ i = .int .i64 k ∧ (∀ j, j < k → okAt zs j = true) ∧ Below w.heap.size w wr) (fun i _ => zs.length - (intOf i).toNat)
  case atStart => exact ⟨0, Nat.zero_le _, rfl, fun j hj => absurd hj (by omega), Below.refl _ _⟩
  case round =>
    obtain ⟨k, hk, rfl, hall, hb⟩ := hrel
    have HA := Lib.hid hall
    clear hall
    by_cases hlt : k < zs.length
    · obtain ⟨b, off, rfl, c1, -⟩ := (h.below hb).at_ hlt
      obtain ⟨x, hx⟩ : ∃ x, x = zs[k] := ⟨_, rfl⟩
      rw [← hx] at c1
      have hxm : x.size ≤ maxLen := by rw [hx]; exact hs _ (List.getElem_mem _)
      have hxk : zs[k]? = some x := by rw [hx]; exact List.getElem?_eq_getElem hlt
      have HX := Lib.hid hxk
      have i1 : (k : Int) < (zs.length : Int) := by omega
      have d1 : decide (k < zs.length) = true := by simpa using hlt
      obtain ⟨q, hq⟩ : ∃ q, q = hasB FEATS x := ⟨_, rfl⟩
      have KI := Lib.hid (fun w => specIsFeature_any x w hxm)
      rw [← hq] at KI
      have HQ := Lib.hid hq
      clear hx hxm hxk hq
      cases q
      · skip
        go_wp2_with fail
        refine wp_region_noPanic ?_
        refine wp_region_held_drew (S := (fun w' => w'.cell? ⟨b, off + k, none⟩ = some (.string x) ∧ Below wr.heap.size wr w')) (by kernel_rfl) ⟨c1, (Below.refl _ _).drew⟩ (fun hHeld => ?_)
        refine wpAnyH_take (i := 0) (oi := _) (v := ?_) rfl (by kernel_rfl) (by kernel_rfl) (by kernel_rfl) (fun _ _ _ h => h) (Or.inl ⟨by rfl, ?_⟩) (by assumption) ?_
        rotate_left
        · intro w hSw; clear hSw; first | (go_simp; done) | (go_simp; with_reducible rfl)
        simp only [Act.put, List.getElem_toArray, List.getElem_cons_succ, List.getElem_cons_zero, List.setIfInBounds_toArray, List.set_cons_zero, List.set_cons_succ]
        refine wpAnyH_take (i := 1) (oi := _) (v := ?_) rfl (by kernel_rfl) (by kernel_rfl) (by kernel_rfl) (fun _ _ _ h => h) (Or.inl ⟨by rfl, ?_⟩) (by assumption) ?_
        rotate_left
        · intro w hSw; clear hSw; first | (go_simp; done) | (go_simp; with_reducible rfl)
        simp only [Act.put, List.getElem_toArray, List.getElem_cons_succ, List.getElem_cons_zero, List.setIfInBounds_toArray, List.set_cons_zero, List.set_cons_succ]
        refine wpAnyH_take (i := 2) (oi := _) (v := ?_) rfl (by kernel_rfl) (by kernel_rfl) (by kernel_rfl) (fun _ _ _ h => h) (Or.inl ⟨by rfl, ?_⟩) (by assumption) ?_
        rotate_left
        · intro w hSw; clear hSw; first | (go_simp; done) | (go_simp; with_reducible rfl)
        simp only [Act.put, List.getElem_toArray, List.getElem_cons_succ, List.getElem_cons_zero, List.setIfInBounds_toArray, List.set_cons_zero, List.set_cons_succ]
        refine wpAnyH_take (i := 3) (oi := _) (v := ?_) rfl (by kernel_rfl) (by kernel_rfl) (by kernel_rfl) (fun _ _ _ h => h) (Or.inl ⟨by rfl, ?_⟩) (by assumption) ?_
        rotate_left
        · intro w hSw; (try dsimp only at hSw); first | (go_simp; done) | (go_simp; with_reducible rfl)
        simp only [Act.put, List.getElem_toArray, List.getElem_cons_succ, List.getElem_cons_zero, List.setIfInBounds_toArray, List.set_cons_zero, List.set_cons_succ]
        refine wpAnyH_ready (rs := [4]) (by kernel_rfl) (by simp) ?_
        refine AllReadyH.cons (o := _) rfl (fun K hK => ?_) AllReadyH.nil
        go_simp
        refine (KI.out _).mono ?_
        rintro e w2 ⟨rfl, hb2⟩
        go_wp2_with fail
        refine hK.out _ _ ⟨keep_cell hHeld.1 hb2, Below_then hHeld.2 hb2⟩ (fun hHeld => ?_)
        clear hK K
        try simp only [Act.put, List.getElem_toArray, List.getElem_cons_succ, List.getElem_cons_zero, List.setIfInBounds_toArray, List.set_cons_zero, List.set_cons_succ]
        refine wpAnyH_take (i := 5) (oi := _) (v := ?_) rfl (by kernel_rfl) (by kernel_rfl) (by kernel_rfl) (fun _ _ _ h => h) (Or.inl ⟨by rfl, ?_⟩) (by assumption) ?_
        rotate_left
        · intro w hSw; clear hSw; first | (go_simp; done) | (go_simp; with_reducible rfl)
        simp only [Act.put, List.getElem_toArray, List.getElem_cons_succ, List.getElem_cons_zero, List.setIfInBounds_toArray, List.set_cons_zero, List.set_cons_succ]
        refine wpAnyH_take (i := 6) (oi := _) (v := ?_) rfl (by kernel_rfl) (by kernel_rfl) (by kernel_rfl) (fun _ _ _ h => h) (Or.inl ⟨by rfl, ?_⟩) (by assumption) ?_
        rotate_left
        · intro w hSw; clear hSw; first | (go_simp; done) | (go_simp; with_reducible rfl)
        simp only [Act.put, List.getElem_toArray, List.getElem_cons_succ, List.getElem_cons_zero, List.setIfInBounds_toArray, List.set_cons_zero, List.set_cons_succ]
        refine wpAnyH_take (i := 7) (oi := _) (v := _) rfl (by kernel_rfl) (by kernel_rfl) (by kernel_rfl) (fun _ _ _ h => h) (Or.inr ⟨by kernel_rfl, rfl⟩) (by assumption) ?_
        simp only [Act.put, List.getElem_toArray, List.getElem_cons_succ, List.getElem_cons_zero, List.setIfInBounds_toArray, List.set_cons_zero, List.set_cons_succ]
        refine wpAnyH_take (i := 8) (oi := _) (v := _) rfl (by kernel_rfl) (by kernel_rfl) (by kernel_rfl) (fun _ _ _ h => h) (Or.inr ⟨by kernel_rfl, rfl⟩) (by assumption) ?_
        simp only [Act.put, List.getElem_toArray, List.getElem_cons_succ, List.getElem_cons_zero, List.setIfInBounds_toArray, List.set_cons_zero, List.set_cons_succ]
        refine wpAnyH_take (i := 9) (oi := _) (v := _) rfl (by kernel_rfl) (by kernel_rfl) (by kernel_rfl) (fun _ _ _ h => h) (Or.inr ⟨by kernel_rfl, rfl⟩) (by assumption) ?_
        simp only [Act.put, List.getElem_toArray, List.getElem_cons_succ, List.getElem_cons_zero, List.setIfInBounds_toArray, List.set_cons_zero, List.set_cons_succ]
        refine wpAnyH_take (i := 10) (oi := _) (v := _) rfl (by kernel_rfl) (by kernel_rfl) (by kernel_rfl) (fun _ _ _ h => h) (Or.inr ⟨by kernel_rfl, rfl⟩) (by assumption) ?_
        simp only [Act.put, List.getElem_toArray, List.getElem_cons_succ, List.getElem_cons_zero, List.setIfInBounds_toArray, List.set_cons_zero, List.set_cons_succ]
        refine wpAnyH_take (i := 11) (oi := _) (v := _) rfl (by kernel_rfl) (by kernel_rfl) (by kernel_rfl) (fun _ _ _ h => h) (Or.inr ⟨by kernel_rfl, rfl⟩) (by assumption) ?_
        simp only [Act.put, List.getElem_toArray, List.getElem_cons_succ, List.getElem_cons_zero, List.setIfInBounds_toArray, List.set_cons_zero, List.set_cons_succ]
        refine wpAnyH_take (i := 12) (oi := _) (v := _) rfl (by kernel_rfl) (by kernel_rfl) (by kernel_rfl) (fun _ _ _ h => h) (Or.inr ⟨by kernel_rfl, rfl⟩) (by assumption) ?_
        simp only [Act.put, List.getElem_toArray, List.getElem_cons_succ, List.getElem_cons_zero, List.setIfInBounds_toArray, List.set_cons_zero, List.set_cons_succ]
        refine wpAnyH_take (i := 13) (oi := _) (v := _) rfl (by kernel_rfl) (by kernel_rfl) (by kernel_rfl) (fun _ _ _ h => h) (Or.inr ⟨by kernel_rfl, rfl⟩) (by assumption) ?_
        simp only [Act.put, List.getElem_toArray, List.getElem_cons_succ, List.getElem_cons_zero, List.setIfInBounds_toArray, List.set_cons_zero, List.set_cons_succ]
        refine wpAnyH_take (i := 14) (oi := _) (v := _) rfl (by kernel_rfl) (by kernel_rfl) (by kernel_rfl) (fun _ _ _ h => h) (Or.inr ⟨by kernel_rfl, rfl⟩) (by assumption) ?_
        simp only [Act.put, List.getElem_toArray, List.getElem_cons_succ, List.getElem_cons_zero, List.setIfInBounds_toArray, List.set_cons_zero, List.set_cons_succ]
        refine wpAnyH_take (i := 15) (oi := _) (v := _) rfl (by kernel_rfl) (by kernel_rfl) (by kernel_rfl) (fun _ _ _ h => h) (Or.inr ⟨by kernel_rfl, rfl⟩) (by assumption) ?_
        simp only [Act.put, List.getElem_toArray, List.getElem_cons_succ, List.getElem_cons_zero, List.setIfInBounds_toArray, List.set_cons_zero, List.set_cons_succ]
        refine wpAnyH_take (i := 16) (oi := _) (v := _) rfl (by kernel_rfl) (by kernel_rfl) (by kernel_rfl) (fun _ _ _ h => h) (Or.inr ⟨by kernel_rfl, rfl⟩) (by assumption) ?_
        simp only [Act.put, List.getElem_toArray, List.getElem_cons_succ, List.getElem_cons_zero, List.setIfInBounds_toArray, List.set_cons_zero, List.set_cons_succ]
        refine wpAnyH_take (i := 17) (oi := _) (v := _) rfl (by kernel_rfl) (by kernel_rfl) (by kernel_rfl) (fun _ _ _ h => h) (Or.inr ⟨by kernel_rfl, rfl⟩) (by assumption) ?_
        simp only [Act.put, List.getElem_toArray, List.getElem_cons_succ, List.getElem_cons_zero, List.setIfInBounds_toArray, List.set_cons_zero, List.set_cons_succ]
        refine wpAnyH_take (i := 18) (oi := _) (v := _) rfl (by kernel_rfl) (by kernel_rfl) (by kernel_rfl) (fun _ _ _ h => h) (Or.inr ⟨by kernel_rfl, rfl⟩) (by assumption) ?_
        simp only [Act.put, List.getElem_toArray, List.getElem_cons_succ, List.getElem_cons_zero, List.setIfInBounds_toArray, List.set_cons_zero, List.set_cons_succ]
        refine wpAnyH_take (i := 19) (oi := _) (v := _) rfl (by kernel_rfl) (by kernel_rfl) (by kernel_rfl) (fun _ _ _ h => h) (Or.inr ⟨by kernel_rfl, rfl⟩) (by assumption) ?_
        simp only [Act.put, List.getElem_toArray, List.getElem_cons_succ, List.getElem_cons_zero, List.setIfInBounds_toArray, List.set_cons_zero, List.set_cons_succ]
        refine wpAnyH_take (i := 20) (oi := _) (v := _) rfl (by kernel_rfl) (by kernel_rfl) (by kernel_rfl) (fun _ _ _ h => h) (Or.inr ⟨by kernel_rfl, rfl⟩) (by assumption) ?_
        simp only [Act.put, List.getElem_toArray, List.getElem_cons_succ, List.getElem_cons_zero, List.setIfInBounds_toArray, List.set_cons_zero, List.set_cons_succ]
        refine wpAnyH_take (i := 21) (oi := _) (v := ?_) rfl (by kernel_rfl) (by kernel_rfl) (by kernel_rfl) (fun _ _ _ h => h) (Or.inl ⟨by rfl, ?_⟩) (by assumption) ?_
        rotate_left
        · intro w hSw; clear hSw; first | (go_simp; done) | (go_simp; with_reducible rfl)
        simp only [Act.put, List.getElem_toArray, List.getElem_cons_succ, List.getElem_cons_zero, List.setIfInBounds_toArray, List.set_cons_zero, List.set_cons_succ]
        refine wpAnyH_done (by kernel_rfl) ?_ _
        refine NoPanic.normal ?_
        have hb3 := Below_then hb hHeld.2
        clear hHeld
        try (refine hK _ _ ?_; clear hK K)
        go_wp2
        go_ret
        exact ⟨retB (lsOk_no HX.out (by unfold okAt; rw [HX.out]; simp [← HQ.out])).symm, hb3⟩
      · cases k with
        | zero =>
          simp only [Nat.add_zero] at c1
          go_wp2_with fail
          refine wp_region_noPanic ?_
          refine wp_region_held_drew (S := (fun w' => w'.cell? ⟨b, off, none⟩ = some (.string x) ∧ Below wr.heap.size wr w')) (by kernel_rfl) ⟨c1, (Below.refl _ _).drew⟩ (fun hHeld => ?_)
          refine wpAnyH_take (i := 0) (oi := _) (v := ?_) rfl (by kernel_rfl) (by kernel_rfl) (by kernel_rfl) (fun _ _ _ h => h) (Or.inl ⟨by rfl, ?_⟩) (by assumption) ?_
          rotate_left
          · intro w hSw; clear hSw; first | (go_simp; done) | (go_simp; with_reducible rfl)
          simp only [Act.put, List.getElem_toArray, List.getElem_cons_succ, List.getElem_cons_zero, List.setIfInBounds_toArray, List.set_cons_zero, List.set_cons_succ]
          refine wpAnyH_take (i := 1) (oi := _) (v := ?_) rfl (by kernel_rfl) (by kernel_rfl) (by kernel_rfl) (fun _ _ _ h => h) (Or.inl ⟨by rfl, ?_⟩) (by assumption) ?_
          rotate_left
          · intro w hSw; clear hSw; first | (go_simp; done) | (go_simp; with_reducible rfl)
          simp only [Act.put, List.getElem_toArray, List.getElem_cons_succ, List.getElem_cons_zero, List.setIfInBounds_toArray, List.set_cons_zero, List.set_cons_succ]
          refine wpAnyH_take (i := 2) (oi := _) (v := ?_) rfl (by kernel_rfl) (by kernel_rfl) (by kernel_rfl) (fun _ _ _ h => h) (Or.inl ⟨by rfl, ?_⟩) (by assumption) ?_
          rotate_left
          · intro w hSw; clear hSw; first | (go_simp; done) | (go_simp; with_reducible rfl)
          simp only [Act.put, List.getElem_toArray, List.getElem_cons_succ, List.getElem_cons_zero, List.setIfInBounds_toArray, List.set_cons_zero, List.set_cons_succ]
          refine wpAnyH_take (i := 3) (oi := _) (v := ?_) rfl (by kernel_rfl) (by kernel_rfl) (by kernel_rfl) (fun _ _ _ h => h) (Or.inl ⟨by rfl, ?_⟩) (by assumption) ?_
          rotate_left
          · intro w hSw; (try dsimp only at hSw); first | (go_simp; done) | (go_simp; with_reducible rfl)
          simp only [Act.put, List.getElem_toArray, List.getElem_cons_succ, List.getElem_cons_zero, List.setIfInBounds_toArray, List.set_cons_zero, List.set_cons_succ]
          refine wpAnyH_ready (rs := [4]) (by kernel_rfl) (by simp) ?_
          refine AllReadyH.cons (o := _) rfl (fun K hK => ?_) AllReadyH.nil
          go_simp
          refine (KI.out _).mono ?_
          rintro e w2 ⟨rfl, hb2⟩
          go_wp2_with fail
          refine hK.out _ _ ⟨keep_cell hHeld.1 hb2, Below_then hHeld.2 hb2⟩ (fun hHeld => ?_)
          clear hK K
          try simp only [Act.put, List.getElem_toArray, List.getElem_cons_succ, List.getElem_cons_zero, List.setIfInBounds_toArray, List.set_cons_zero, List.set_cons_succ]
          refine wpAnyH_take (i := 5) (oi := _) (v := ?_) rfl (by kernel_rfl) (by kernel_rfl) (by kernel_rfl) (fun _ _ _ h => h) (Or.inl ⟨by rfl, ?_⟩) (by assumption) ?_
          rotate_left
          · intro w hSw; clear hSw; first | (go_simp; done) | (go_simp; with_reducible rfl)
          simp only [Act.put, List.getElem_toArray, List.getElem_cons_succ, List.getElem_cons_zero, List.setIfInBounds_toArray, List.set_cons_zero, List.set_cons_succ]
          refine wpAnyH_take (i := 6) (oi := _) (v := ?_) rfl (by kernel_rfl) (by kernel_rfl) (by kernel_rfl) (fun _ _ _ h => h) (Or.inl ⟨by rfl, ?_⟩) (by assumption) ?_
          rotate_left
          · intro w hSw; clear hSw; first | (go_simp; done) | (go_simp; with_reducible rfl)
          simp only [Act.put, List.getElem_toArray, List.getElem_cons_succ, List.getElem_cons_zero, List.setIfInBounds_toArray, List.set_cons_zero, List.set_cons_succ]
          refine wpAnyH_take (i := 7) (oi := _) (v := ?_) rfl (by kernel_rfl) (by kernel_rfl) (by kernel_rfl) (fun _ _ _ h => h) (Or.inl ⟨by rfl, ?_⟩) (by assumption) ?_
          rotate_left
          · intro w hSw; clear hSw; first | (go_simp; done) | (go_simp; with_reducible rfl)
          simp only [Act.put, List.getElem_toArray, List.getElem_cons_succ, List.getElem_cons_zero, List.setIfInBounds_toArray, List.set_cons_zero, List.set_cons_succ]
          refine wpAnyH_take (i := 8) (oi := _) (v := ?_) rfl (by kernel_rfl) (by kernel_rfl) (by kernel_rfl) (fun _ _ _ h => h) (Or.inl ⟨by rfl, ?_⟩) (by assumption) ?_
          rotate_left
          · intro w hSw; clear hSw; first | (go_simp; done) | (go_simp; with_reducible rfl)
          simp only [Act.put, List.getElem_toArray, List.getElem_cons_succ, List.getElem_cons_zero, List.setIfInBounds_toArray, List.set_cons_zero, List.set_cons_succ]
          refine wpAnyH_take (i := 9) (oi := _) (v := ?_) rfl (by kernel_rfl) (by kernel_rfl) (by kernel_rfl) (fun _ _ _ h => h) (Or.inl ⟨by rfl, ?_⟩) (by assumption) ?_
          rotate_left
          · intro w hSw; clear hSw; first | (go_simp; done) | (go_simp; with_reducible rfl)
          simp only [Act.put, List.getElem_toArray, List.getElem_cons_succ, List.getElem_cons_zero, List.setIfInBounds_toArray, List.set_cons_zero, List.set_cons_succ]
          refine wpAnyH_take (i := 10) (oi := _) (v := _) rfl (by kernel_rfl) (by kernel_rfl) (by kernel_rfl) (fun _ _ _ h => h) (Or.inr ⟨by kernel_rfl, rfl⟩) (by assumption) ?_
          simp only [Act.put, List.getElem_toArray, List.getElem_cons_succ, List.getElem_cons_zero, List.setIfInBounds_toArray, List.set_cons_zero, List.set_cons_succ]
          refine wpAnyH_take (i := 11) (oi := _) (v := _) rfl (by kernel_rfl) (by kernel_rfl) (by kernel_rfl) (fun _ _ _ h => h) (Or.inr ⟨by kernel_rfl, rfl⟩) (by assumption) ?_
          simp only [Act.put, List.getElem_toArray, List.getElem_cons_succ, List.getElem_cons_zero, List.setIfInBounds_toArray, List.set_cons_zero, List.set_cons_succ]
          refine wpAnyH_take (i := 12) (oi := _) (v := _) rfl (by kernel_rfl) (by kernel_rfl) (by kernel_rfl) (fun _ _ _ h => h) (Or.inr ⟨by kernel_rfl, rfl⟩) (by assumption) ?_
          simp only [Act.put, List.getElem_toArray, List.getElem_cons_succ, List.getElem_cons_zero, List.setIfInBounds_toArray, List.set_cons_zero, List.set_cons_succ]
          refine wpAnyH_take (i := 13) (oi := _) (v := _) rfl (by kernel_rfl) (by kernel_rfl) (by kernel_rfl) (fun _ _ _ h => h) (Or.inr ⟨by kernel_rfl, rfl⟩) (by assumption) ?_
          simp only [Act.put, List.getElem_toArray, List.getElem_cons_succ, List.getElem_cons_zero, List.setIfInBounds_toArray, List.set_cons_zero, List.set_cons_succ]
          refine wpAnyH_take (i := 14) (oi := _) (v := _) rfl (by kernel_rfl) (by kernel_rfl) (by kernel_rfl) (fun _ _ _ h => h) (Or.inr ⟨by kernel_rfl, rfl⟩) (by assumption) ?_
          simp only [Act.put, List.getElem_toArray, List.getElem_cons_succ, List.getElem_cons_zero, List.setIfInBounds_toArray, List.set_cons_zero, List.set_cons_succ]
          refine wpAnyH_take (i := 15) (oi := _) (v := _) rfl (by kernel_rfl) (by kernel_rfl) (by kernel_rfl) (fun _ _ _ h => h) (Or.inr ⟨by kernel_rfl, rfl⟩) (by assumption) ?_
          simp only [Act.put, List.getElem_toArray, List.getElem_cons_succ, List.getElem_cons_zero, List.setIfInBounds_toArray, List.set_cons_zero, List.set_cons_succ]
          refine wpAnyH_take (i := 16) (oi := _) (v := _) rfl (by kernel_rfl) (by kernel_rfl) (by kernel_rfl) (fun _ _ _ h => h) (Or.inr ⟨by kernel_rfl, rfl⟩) (by assumption) ?_
          simp only [Act.put, List.getElem_toArray, List.getElem_cons_succ, List.getElem_cons_zero, List.setIfInBounds_toArray, List.set_cons_zero, List.set_cons_succ]
          refine wpAnyH_take (i := 17) (oi := _) (v := _) rfl (by kernel_rfl) (by kernel_rfl) (by kernel_rfl) (fun _ _ _ h => h) (Or.inr ⟨by kernel_rfl, rfl⟩) (by assumption) ?_
          simp only [Act.put, List.getElem_toArray, List.getElem_cons_succ, List.getElem_cons_zero, List.setIfInBounds_toArray, List.set_cons_zero, List.set_cons_succ]
          refine wpAnyH_take (i := 18) (oi := _) (v := _) rfl (by kernel_rfl) (by kernel_rfl) (by kernel_rfl) (fun _ _ _ h => h) (Or.inr ⟨by kernel_rfl, rfl⟩) (by assumption) ?_
          simp only [Act.put, List.getElem_toArray, List.getElem_cons_succ, List.getElem_cons_zero, List.setIfInBounds_toArray, List.set_cons_zero, List.set_cons_succ]
          refine wpAnyH_take (i := 19) (oi := _) (v := _) rfl (by kernel_rfl) (by kernel_rfl) (by kernel_rfl) (fun _ _ _ h => h) (Or.inr ⟨by kernel_rfl, rfl⟩) (by assumption) ?_
          simp only [Act.put, List.getElem_toArray, List.getElem_cons_succ, List.getElem_cons_zero, List.setIfInBounds_toArray, List.set_cons_zero, List.set_cons_succ]
          refine wpAnyH_take (i := 20) (oi := _) (v := ?_) rfl (by kernel_rfl) (by kernel_rfl) (by kernel_rfl) (fun _ _ _ h => h) (Or.inl ⟨by rfl, ?_⟩) (by assumption) ?_
          rotate_left
          · intro w hSw; clear hSw; first | (go_simp; done) | (go_simp; with_reducible rfl)
          simp only [Act.put, List.getElem_toArray, List.getElem_cons_succ, List.getElem_cons_zero, List.setIfInBounds_toArray, List.set_cons_zero, List.set_cons_succ]
          refine wpAnyH_take (i := 21) (oi := _) (v := ?_) rfl (by kernel_rfl) (by kernel_rfl) (by kernel_rfl) (fun _ _ _ h => h) (Or.inl ⟨by rfl, ?_⟩) (by assumption) ?_
          rotate_left
          · intro w hSw; clear hSw; first | (go_simp; done) | (go_simp; with_reducible rfl)
          simp only [Act.put, List.getElem_toArray, List.getElem_cons_succ, List.getElem_cons_zero, List.setIfInBounds_toArray, List.set_cons_zero, List.set_cons_succ]
          refine wpAnyH_done (by kernel_rfl) ?_ _
          refine NoPanic.normal ?_
          have hb3 := Below_then hb hHeld.2
          clear hHeld
          try (refine hK _ _ ?_; clear hK K)
          go_wp2
          go_roundw
          case rel =>
            refine ⟨1, by omega, by go_num, fun j hj => ?_, hb3⟩
            obtain rfl : j = 0 := by omega
            unfold okAt
            rw [HX.out]
            simp [← HQ.out]
          case measure => simp [intOf]; omega
        | succ j =>
          obtain ⟨b', off', e1, c2, -⟩ := (h.below hb).at_ (show j < zs.length by omega)
          injection e1 with e1
          injection e1 with e1 e2
          subst e1 e2
          obtain ⟨y, hy⟩ : ∃ y, y = zs[j] := ⟨_, rfl⟩
          rw [← hy] at c2
          have hyj : zs[j]? = some y := by rw [hy]; exact List.getElem?_eq_getElem (by omega)
          have HY := Lib.hid hyj
          have f1 : (0 : Int) ≤ (j : Int) + 1 := by omega
          have f2 : (j : Int) + 1 < (zs.length : Int) := by omega
          have f3 : IntKind.i64.wrap (j : Int) = (j : Int) := by rw [IntKind.wrap_i64]; omega
          have f4 : (j : Int) < (zs.length : Int) := by omega
          have f5 : (0 : Int) < (j : Int) + 1 := by omega
          clear hy hyj
          cases hl : Op.bytesLess y.toList x.toList
          · have HL := Lib.hid hl
            go_wp2_with fail
            refine wp_region_noPanic ?_
            refine wp_region_held_drew (S := (fun w' => w'.cell? ⟨b, off + (j + 1), none⟩ = some (.string x) ∧ w'.cell? ⟨b, off + j, none⟩ = some (.string y) ∧ Below wr.heap.size wr w')) (by kernel_rfl) ⟨c1, c2, (Below.refl _ _).drew⟩ (fun hHeld => ?_)
            refine wpAnyH_take (i := 0) (oi := _) (v := ?_) rfl (by kernel_rfl) (by kernel_rfl) (by kernel_rfl) (fun _ _ _ h => h) (Or.inl ⟨by rfl, ?_⟩) (by assumption) ?_
            rotate_left
            · intro w hSw; clear hSw; first | (go_simp; done) | (go_simp; with_reducible rfl)
            simp only [Act.put, List.getElem_toArray, List.getElem_cons_succ, List.getElem_cons_zero, List.setIfInBounds_toArray, List.set_cons_zero, List.set_cons_succ]
            refine wpAnyH_take (i := 1) (oi := _) (v := ?_) rfl (by kernel_rfl) (by kernel_rfl) (by kernel_rfl) (fun _ _ _ h => h) (Or.inl ⟨by rfl, ?_⟩) (by assumption) ?_
            rotate_left
            · intro w hSw; clear hSw; first | (go_simp; done) | (go_simp; with_reducible rfl)
            simp only [Act.put, List.getElem_toArray, List.getElem_cons_succ, List.getElem_cons_zero, List.setIfInBounds_toArray, List.set_cons_zero, List.set_cons_succ]
            refine wpAnyH_take (i := 2) (oi := _) (v := ?_) rfl (by kernel_rfl) (by kernel_rfl) (by kernel_rfl) (fun _ _ _ h => h) (Or.inl ⟨by rfl, ?_⟩) (by assumption) ?_
            rotate_left
            · intro w hSw; clear hSw; first | (go_simp; done) | (go_simp; with_reducible rfl)
            simp only [Act.put, List.getElem_toArray, List.getElem_cons_succ, List.getElem_cons_zero, List.setIfInBounds_toArray, List.set_cons_zero, List.set_cons_succ]
            refine wpAnyH_take (i := 3) (oi := _) (v := ?_) rfl (by kernel_rfl) (by kernel_rfl) (by kernel_rfl) (fun _ _ _ h => h) (Or.inl ⟨by rfl, ?_⟩) (by assumption) ?_
            rotate_left
            · intro w hSw; (try dsimp only at hSw); first | (go_simp; done) | (go_simp; with_reducible rfl)
            simp only [Act.put, List.getElem_toArray, List.getElem_cons_succ, List.getElem_cons_zero, List.setIfInBounds_toArray, List.set_cons_zero, List.set_cons_succ]
            refine wpAnyH_ready (rs := [4]) (by kernel_rfl) (by simp) ?_
            refine AllReadyH.cons (o := _) rfl (fun K hK => ?_) AllReadyH.nil
            go_simp
            refine (KI.out _).mono ?_
            rintro e w2 ⟨rfl, hb2⟩
            go_wp2_with fail
            refine hK.out _ _ ⟨keep_cell hHeld.1 hb2, keep_cell hHeld.2.1 hb2, Below_then hHeld.2.2 hb2⟩ (fun hHeld => ?_)
            clear hK K
            try simp only [Act.put, List.getElem_toArray, List.getElem_cons_succ, List.getElem_cons_zero, List.setIfInBounds_toArray, List.set_cons_zero, List.set_cons_succ]
            refine wpAnyH_take (i := 5) (oi := _) (v := ?_) rfl (by kernel_rfl) (by kernel_rfl) (by kernel_rfl) (fun _ _ _ h => h) (Or.inl ⟨by rfl, ?_⟩) (by assumption) ?_
            rotate_left
            · intro w hSw; clear hSw; first | (go_simp; done) | (go_simp; with_reducible rfl)
            simp only [Act.put, List.getElem_toArray, List.getElem_cons_succ, List.getElem_cons_zero, List.setIfInBounds_toArray, List.set_cons_zero, List.set_cons_succ]
            refine wpAnyH_take (i := 6) (oi := _) (v := ?_) rfl (by kernel_rfl) (by kernel_rfl) (by kernel_rfl) (fun _ _ _ h => h) (Or.inl ⟨by rfl, ?_⟩) (by assumption) ?_
            rotate_left
            · intro w hSw; clear hSw; first | (go_simp; done) | (go_simp; with_reducible rfl)
            simp only [Act.put, List.getElem_toArray, List.getElem_cons_succ, List.getElem_cons_zero, List.setIfInBounds_toArray, List.set_cons_zero, List.set_cons_succ]
            refine wpAnyH_take (i := 7) (oi := _) (v := ?_) rfl (by kernel_rfl) (by kernel_rfl) (by kernel_rfl) (fun _ _ _ h => h) (Or.inl ⟨by rfl, ?_⟩) (by assumption) ?_
            rotate_left
            · intro w hSw; clear hSw; first | (go_simp; done) | (go_simp; with_reducible rfl)
            simp only [Act.put, List.getElem_toArray, List.getElem_cons_succ, List.getElem_cons_zero, List.setIfInBounds_toArray, List.set_cons_zero, List.set_cons_succ]
            refine wpAnyH_take (i := 8) (oi := _) (v := ?_) rfl (by kernel_rfl) (by kernel_rfl) (by kernel_rfl) (fun _ _ _ h => h) (Or.inl ⟨by rfl, ?_⟩) (by assumption) ?_
            rotate_left
            · intro w hSw; clear hSw; first | (go_simp; done) | (go_simp; with_reducible rfl)
            simp only [Act.put, List.getElem_toArray, List.getElem_cons_succ, List.getElem_cons_zero, List.setIfInBounds_toArray, List.set_cons_zero, List.set_cons_succ]
            refine wpAnyH_take (i := 9) (oi := _) (v := ?_) rfl (by kernel_rfl) (by kernel_rfl) (by kernel_rfl) (fun _ _ _ h => h) (Or.inl ⟨by rfl, ?_⟩) (by assumption) ?_
            rotate_left
            · intro w hSw; clear hSw; first | (go_simp; done) | (go_simp; with_reducible rfl)
            simp only [Act.put, List.getElem_toArray, List.getElem_cons_succ, List.getElem_cons_zero, List.setIfInBounds_toArray, List.set_cons_zero, List.set_cons_succ]
            refine wpAnyH_take (i := 10) (oi := _) (v := ?_) rfl (by kernel_rfl) (by kernel_rfl) (by kernel_rfl) (fun _ _ _ h => h) (Or.inl ⟨by rfl, ?_⟩) (by assumption) ?_
            rotate_left
            · intro w hSw; clear hSw; first | (go_simp; done) | (go_simp; with_reducible rfl)
            simp only [Act.put, List.getElem_toArray, List.getElem_cons_succ, List.getElem_cons_zero, List.setIfInBounds_toArray, List.set_cons_zero, List.set_cons_succ]
            refine wpAnyH_take (i := 11) (oi := _) (v := ?_) rfl (by kernel_rfl) (by kernel_rfl) (by kernel_rfl) (fun _ _ _ h => h) (Or.inl ⟨by rfl, ?_⟩) (by assumption) ?_
            rotate_left
            · intro w hSw; clear hSw; first | (go_simp; done) | (go_simp; with_reducible rfl)
            simp only [Act.put, List.getElem_toArray, List.getElem_cons_succ, List.getElem_cons_zero, List.setIfInBounds_toArray, List.set_cons_zero, List.set_cons_succ]
            refine wpAnyH_take (i := 12) (oi := _) (v := ?_) rfl (by kernel_rfl) (by kernel_rfl) (by kernel_rfl) (fun _ _ _ h => h) (Or.inl ⟨by rfl, ?_⟩) (by assumption) ?_
            rotate_left
            · intro w hSw; clear hSw; first | (go_simp; done) | (go_simp; with_reducible rfl)
            simp only [Act.put, List.getElem_toArray, List.getElem_cons_succ, List.getElem_cons_zero, List.setIfInBounds_toArray, List.set_cons_zero, List.set_cons_succ]
            refine wpAnyH_take (i := 13) (oi := _) (v := ?_) rfl (by kernel_rfl) (by kernel_rfl) (by kernel_rfl) (fun _ _ _ h => h) (Or.inl ⟨by rfl, ?_⟩) (by assumption) ?_
            rotate_left
            · intro w hSw; clear hSw; first | (go_simp; done) | (go_simp; with_reducible rfl)
            simp only [Act.put, List.getElem_toArray, List.getElem_cons_succ, List.getElem_cons_zero, List.setIfInBounds_toArray, List.set_cons_zero, List.set_cons_succ]
            refine wpAnyH_take (i := 14) (oi := _) (v := ?_) rfl (by kernel_rfl) (by kernel_rfl) (by kernel_rfl) (fun _ _ _ h => h) (Or.inl ⟨by rfl, ?_⟩) (by assumption) ?_
            rotate_left
            · intro w hSw; (try dsimp only at hSw); first | (go_simp; done) | (go_simp; with_reducible rfl)
            simp only [Act.put, List.getElem_toArray, List.getElem_cons_succ, List.getElem_cons_zero, List.setIfInBounds_toArray, List.set_cons_zero, List.set_cons_succ]
            refine wpAnyH_take (i := 15) (oi := _) (v := ?_) rfl (by kernel_rfl) (by kernel_rfl) (by kernel_rfl) (fun _ _ _ h => h) (Or.inl ⟨by rfl, ?_⟩) (by assumption) ?_
            rotate_left
            · intro w hSw; clear hSw; first | (go_simp; done) | (go_simp; with_reducible rfl)
            simp only [Act.put, List.getElem_toArray, List.getElem_cons_succ, List.getElem_cons_zero, List.setIfInBounds_toArray, List.set_cons_zero, List.set_cons_succ]
            refine wpAnyH_take (i := 16) (oi := _) (v := ?_) rfl (by kernel_rfl) (by kernel_rfl) (by kernel_rfl) (fun _ _ _ h => h) (Or.inl ⟨by rfl, ?_⟩) (by assumption) ?_
            rotate_left
            · intro w hSw; clear hSw; first | (go_simp; done) | (go_simp; with_reducible rfl)
            simp only [Act.put, List.getElem_toArray, List.getElem_cons_succ, List.getElem_cons_zero, List.setIfInBounds_toArray, List.set_cons_zero, List.set_cons_succ]
            refine wpAnyH_take (i := 17) (oi := _) (v := ?_) rfl (by kernel_rfl) (by kernel_rfl) (by kernel_rfl) (fun _ _ _ h => h) (Or.inl ⟨by rfl, ?_⟩) (by assumption) ?_
            rotate_left
            · intro w hSw; clear hSw; first | (go_simp; done) | (go_simp; with_reducible rfl)
            simp only [Act.put, List.getElem_toArray, List.getElem_cons_succ, List.getElem_cons_zero, List.setIfInBounds_toArray, List.set_cons_zero, List.set_cons_succ]
            refine wpAnyH_take (i := 18) (oi := _) (v := ?_) rfl (by kernel_rfl) (by kernel_rfl) (by kernel_rfl) (fun _ _ _ h => h) (Or.inl ⟨by rfl, ?_⟩) (by assumption) ?_
            rotate_left
            · intro w hSw; (try dsimp only at hSw); first | (go_simp; done) | (go_simp; with_reducible rfl)
            simp only [Act.put, List.getElem_toArray, List.getElem_cons_succ, List.getElem_cons_zero, List.setIfInBounds_toArray, List.set_cons_zero, List.set_cons_succ]
            refine wpAnyH_take (i := 19) (oi := _) (v := ?_) rfl (by kernel_rfl) (by kernel_rfl) (by kernel_rfl) (fun _ _ _ h => h) (Or.inl ⟨by rfl, ?_⟩) (by assumption) ?_
            rotate_left
            · intro w hSw; clear hSw; first | (go_simp; done) | (go_simp; with_reducible rfl)
            simp only [Act.put, List.getElem_toArray, List.getElem_cons_succ, List.getElem_cons_zero, List.setIfInBounds_toArray, List.set_cons_zero, List.set_cons_succ]
            refine wpAnyH_take (i := 20) (oi := _) (v := ?_) rfl (by kernel_rfl) (by kernel_rfl) (by kernel_rfl) (fun _ _ _ h => h) (Or.inl ⟨by rfl, ?_⟩) (by assumption) ?_
            rotate_left
            · intro w hSw; clear hSw; first | (go_simp; done) | (go_simp; with_reducible rfl)
            simp only [Act.put, List.getElem_toArray, List.getElem_cons_succ, List.getElem_cons_zero, List.setIfInBounds_toArray, List.set_cons_zero, List.set_cons_succ]
            refine wpAnyH_take (i := 21) (oi := _) (v := ?_) rfl (by kernel_rfl) (by kernel_rfl) (by kernel_rfl) (fun _ _ _ h => h) (Or.inl ⟨by rfl, ?_⟩) (by assumption) ?_
            rotate_left
            · intro w hSw; clear hSw; first | (go_simp; done) | (go_simp; with_reducible rfl)
            simp only [Act.put, List.getElem_toArray, List.getElem_cons_succ, List.getElem_cons_zero, List.setIfInBounds_toArray, List.set_cons_zero, List.set_cons_succ]
            refine wpAnyH_done (by kernel_rfl) ?_ _
            refine NoPanic.normal ?_
            have hb3 := Below_then hb hHeld.2.2
            clear hHeld
            try (refine hK _ _ ?_; clear hK K)
            go_wp2
            go_ret
            exact ⟨retB (lsOk_no HX.out (by unfold okAt; rw [HX.out, Nat.add_sub_cancel, HY.out]; simp [← HQ.out]; exact HL.out)).symm, hb3⟩
          · have HL := Lib.hid hl
            go_wp2_with fail
            refine wp_region_noPanic ?_
            refine wp_region_held_drew (S := (fun w' => w'.cell? ⟨b, off + (j + 1), none⟩ = some (.string x) ∧ w'.cell? ⟨b, off + j, none⟩ = some (.string y) ∧ Below wr.heap.size wr w')) (by kernel_rfl) ⟨c1, c2, (Below.refl _ _).drew⟩ (fun hHeld => ?_)
            refine wpAnyH_take (i := 0) (oi := _) (v := ?_) rfl (by kernel_rfl) (by kernel_rfl) (by kernel_rfl) (fun _ _ _ h => h) (Or.inl ⟨by rfl, ?_⟩) (by assumption) ?_
            rotate_left
            · intro w hSw; clear hSw; first | (go_simp; done) | (go_simp; with_reducible rfl)
            simp only [Act.put, List.getElem_toArray, List.getElem_cons_succ, List.getElem_cons_zero, List.setIfInBounds_toArray, List.set_cons_zero, List.set_cons_succ]
            refine wpAnyH_take (i := 1) (oi := _) (v := ?_) rfl (by kernel_rfl) (by kernel_rfl) (by kernel_rfl) (fun _ _ _ h => h) (Or.inl ⟨by rfl, ?_⟩) (by assumption) ?_
            rotate_left
            · intro w hSw; clear hSw; first | (go_simp; done) | (go_simp; with_reducible rfl)
            simp only [Act.put, List.getElem_toArray, List.getElem_cons_succ, List.getElem_cons_zero, List.setIfInBounds_toArray, List.set_cons_zero, List.set_cons_succ]
            refine wpAnyH_take (i := 2) (oi := _) (v := ?_) rfl (by kernel_rfl) (by kernel_rfl) (by kernel_rfl) (fun _ _ _ h => h) (Or.inl ⟨by rfl, ?_⟩) (by assumption) ?_
            rotate_left
            · intro w hSw; clear hSw; first | (go_simp; done) | (go_simp; with_reducible rfl)
            simp only [Act.put, List.getElem_toArray, List.getElem_cons_succ, List.getElem_cons_zero, List.setIfInBounds_toArray, List.set_cons_zero, List.set_cons_succ]
            refine wpAnyH_take (i := 3) (oi := _) (v := ?_) rfl (by kernel_rfl) (by kernel_rfl) (by kernel_rfl) (fun _ _ _ h => h) (Or.inl ⟨by rfl, ?_⟩) (by assumption) ?_
            rotate_left
            · intro w hSw; (try dsimp only at hSw); first | (go_simp; done) | (go_simp; with_reducible rfl)
            simp only [Act.put, List.getElem_toArray, List.getElem_cons_succ, List.getElem_cons_zero, List.setIfInBounds_toArray, List.set_cons_zero, List.set_cons_succ]
            refine wpAnyH_ready (rs := [4]) (by kernel_rfl) (by simp) ?_
            refine AllReadyH.cons (o := _) rfl (fun K hK => ?_) AllReadyH.nil
            go_simp
            refine (KI.out _).mono ?_
            rintro e w2 ⟨rfl, hb2⟩
            go_wp2_with fail
            refine hK.out _ _ ⟨keep_cell hHeld.1 hb2, keep_cell hHeld.2.1 hb2, Below_then hHeld.2.2 hb2⟩ (fun hHeld => ?_)
            clear hK K
            try simp only [Act.put, List.getElem_toArray, List.getElem_cons_succ, List.getElem_cons_zero, List.setIfInBounds_toArray, List.set_cons_zero, List.set_cons_succ]
            refine wpAnyH_take (i := 5) (oi := _) (v := ?_) rfl (by kernel_rfl) (by kernel_rfl) (by kernel_rfl) (fun _ _ _ h => h) (Or.inl ⟨by rfl, ?_⟩) (by assumption) ?_
            rotate_left
            · intro w hSw; clear hSw; first | (go_simp; done) | (go_simp; with_reducible rfl)
            simp only [Act.put, List.getElem_toArray, List.getElem_cons_succ, List.getElem_cons_zero, List.setIfInBounds_toArray, List.set_cons_zero, List.set_cons_succ]
            refine wpAnyH_take (i := 6) (oi := _) (v := ?_) rfl (by kernel_rfl) (by kernel_rfl) (by kernel_rfl) (fun _ _ _ h => h) (Or.inl ⟨by rfl, ?_⟩) (by assumption) ?_
            rotate_left
            · intro w hSw; clear hSw; first | (go_simp; done) | (go_simp; with_reducible rfl)
            simp only [Act.put, List.getElem_toArray, List.getElem_cons_succ, List.getElem_cons_zero, List.setIfInBounds_toArray, List.set_cons_zero, List.set_cons_succ]
            refine wpAnyH_take (i := 7) (oi := _) (v := ?_) rfl (by kernel_rfl) (by kernel_rfl) (by kernel_rfl) (fun _ _ _ h => h) (Or.inl ⟨by rfl, ?_⟩) (by assumption) ?_
            rotate_left
            · intro w hSw; clear hSw; first | (go_simp; done) | (go_simp; with_reducible rfl)
            simp only [Act.put, List.getElem_toArray, List.getElem_cons_succ, List.getElem_cons_zero, List.setIfInBounds_toArray, List.set_cons_zero, List.set_cons_succ]
            refine wpAnyH_take (i := 8) (oi := _) (v := ?_) rfl (by kernel_rfl) (by kernel_rfl) (by kernel_rfl) (fun _ _ _ h => h) (Or.inl ⟨by rfl, ?_⟩) (by assumption) ?_
            rotate_left
            · intro w hSw; clear hSw; first | (go_simp; done) | (go_simp; with_reducible rfl)
            simp only [Act.put, List.getElem_toArray, List.getElem_cons_succ, List.getElem_cons_zero, List.setIfInBounds_toArray, List.set_cons_zero, List.set_cons_succ]
            refine wpAnyH_take (i := 9) (oi := _) (v := ?_) rfl (by kernel_rfl) (by kernel_rfl) (by kernel_rfl) (fun _ _ _ h => h) (Or.inl ⟨by rfl, ?_⟩) (by assumption) ?_
            rotate_left
            · intro w hSw; clear hSw; first | (go_simp; done) | (go_simp; with_reducible rfl)
            simp only [Act.put, List.getElem_toArray, List.getElem_cons_succ, List.getElem_cons_zero, List.setIfInBounds_toArray, List.set_cons_zero, List.set_cons_succ]
            refine wpAnyH_take (i := 10) (oi := _) (v := ?_) rfl (by kernel_rfl) (by kernel_rfl) (by kernel_rfl) (fun _ _ _ h => h) (Or.inl ⟨by rfl, ?_⟩) (by assumption) ?_
            rotate_left
            · intro w hSw; clear hSw; first | (go_simp; done) | (go_simp; with_reducible rfl)
            simp only [Act.put, List.getElem_toArray, List.getElem_cons_succ, List.getElem_cons_zero, List.setIfInBounds_toArray, List.set_cons_zero, List.set_cons_succ]
            refine wpAnyH_take (i := 11) (oi := _) (v := ?_) rfl (by kernel_rfl) (by kernel_rfl) (by kernel_rfl) (fun _ _ _ h => h) (Or.inl ⟨by rfl, ?_⟩) (by assumption) ?_
            rotate_left
            · intro w hSw; clear hSw; first | (go_simp; done) | (go_simp; with_reducible rfl)
            simp only [Act.put, List.getElem_toArray, List.getElem_cons_succ, List.getElem_cons_zero, List.setIfInBounds_toArray, List.set_cons_zero, List.set_cons_succ]
            refine wpAnyH_take (i := 12) (oi := _) (v := ?_) rfl (by kernel_rfl) (by kernel_rfl) (by kernel_rfl) (fun _ _ _ h => h) (Or.inl ⟨by rfl, ?_⟩) (by assumption) ?_
            rotate_left
            · intro w hSw; clear hSw; first | (go_simp; done) | (go_simp; with_reducible rfl)
            simp only [Act.put, List.getElem_toArray, List.getElem_cons_succ, List.getElem_cons_zero, List.setIfInBounds_toArray, List.set_cons_zero, List.set_cons_succ]
            refine wpAnyH_take (i := 13) (oi := _) (v := ?_) rfl (by kernel_rfl) (by kernel_rfl) (by kernel_rfl) (fun _ _ _ h => h) (Or.inl ⟨by rfl, ?_⟩) (by assumption) ?_
            rotate_left
            · intro w hSw; clear hSw; first | (go_simp; done) | (go_simp; with_reducible rfl)
            simp only [Act.put, List.getElem_toArray, List.getElem_cons_succ, List.getElem_cons_zero, List.setIfInBounds_toArray, List.set_cons_zero, List.set_cons_succ]
            refine wpAnyH_take (i := 14) (oi := _) (v := ?_) rfl (by kernel_rfl) (by kernel_rfl) (by kernel_rfl) (fun _ _ _ h => h) (Or.inl ⟨by rfl, ?_⟩) (by assumption) ?_
            rotate_left
            · intro w hSw; (try dsimp only at hSw); first | (go_simp; done) | (go_simp; with_reducible rfl)
            simp only [Act.put, List.getElem_toArray, List.getElem_cons_succ, List.getElem_cons_zero, List.setIfInBounds_toArray, List.set_cons_zero, List.set_cons_succ]
            refine wpAnyH_take (i := 15) (oi := _) (v := ?_) rfl (by kernel_rfl) (by kernel_rfl) (by kernel_rfl) (fun _ _ _ h => h) (Or.inl ⟨by rfl, ?_⟩) (by assumption) ?_
            rotate_left
            · intro w hSw; clear hSw; first | (go_simp; done) | (go_simp; with_reducible rfl)
            simp only [Act.put, List.getElem_toArray, List.getElem_cons_succ, List.getElem_cons_zero, List.setIfInBounds_toArray, List.set_cons_zero, List.set_cons_succ]
            refine wpAnyH_take (i := 16) (oi := _) (v := ?_) rfl (by kernel_rfl) (by kernel_rfl) (by kernel_rfl) (fun _ _ _ h => h) (Or.inl ⟨by rfl, ?_⟩) (by assumption) ?_
            rotate_left
            · intro w hSw; clear hSw; first | (go_simp; done) | (go_simp; with_reducible rfl)
            simp only [Act.put, List.getElem_toArray, List.getElem_cons_succ, List.getElem_cons_zero, List.setIfInBounds_toArray, List.set_cons_zero, List.set_cons_succ]
            refine wpAnyH_take (i := 17) (oi := _) (v := ?_) rfl (by kernel_rfl) (by kernel_rfl) (by kernel_rfl) (fun _ _ _ h => h) (Or.inl ⟨by rfl, ?_⟩) (by assumption) ?_
            rotate_left
            · intro w hSw; clear hSw; first | (go_simp; done) | (go_simp; with_reducible rfl)
            simp only [Act.put, List.getElem_toArray, List.getElem_cons_succ, List.getElem_cons_zero, List.setIfInBounds_toArray, List.set_cons_zero, List.set_cons_succ]
            refine wpAnyH_take (i := 18) (oi := _) (v := ?_) rfl (by kernel_rfl) (by kernel_rfl) (by kernel_rfl) (fun _ _ _ h => h) (Or.inl ⟨by rfl, ?_⟩) (by assumption) ?_
            rotate_left
            · intro w hSw; (try dsimp only at hSw); first | (go_simp; done) | (go_simp; with_reducible rfl)
            simp only [Act.put, List.getElem_toArray, List.getElem_cons_succ, List.getElem_cons_zero, List.setIfInBounds_toArray, List.set_cons_zero, List.set_cons_succ]
            refine wpAnyH_take (i := 19) (oi := _) (v := ?_) rfl (by kernel_rfl) (by kernel_rfl) (by kernel_rfl) (fun _ _ _ h => h) (Or.inl ⟨by rfl, ?_⟩) (by assumption) ?_
            rotate_left
            · intro w hSw; clear hSw; first | (go_simp; done) | (go_simp; with_reducible rfl)
            simp only [Act.put, List.getElem_toArray, List.getElem_cons_succ, List.getElem_cons_zero, List.setIfInBounds_toArray, List.set_cons_zero, List.set_cons_succ]
            refine wpAnyH_take (i := 20) (oi := _) (v := ?_) rfl (by kernel_rfl) (by kernel_rfl) (by kernel_rfl) (fun _ _ _ h => h) (Or.inl ⟨by rfl, ?_⟩) (by assumption) ?_
            rotate_left
            · intro w hSw; clear hSw; first | (go_simp; done) | (go_simp; with_reducible rfl)
            simp only [Act.put, List.getElem_toArray, List.getElem_cons_succ, List.getElem_cons_zero, List.setIfInBounds_toArray, List.set_cons_zero, List.set_cons_succ]
            refine wpAnyH_take (i := 21) (oi := _) (v := ?_) rfl (by kernel_rfl) (by kernel_rfl) (by kernel_rfl) (fun _ _ _ h => h) (Or.inl ⟨by rfl, ?_⟩) (by assumption) ?_
            rotate_left
            · intro w hSw; clear hSw; first | (go_simp; done) | (go_simp; with_reducible rfl)
            simp only [Act.put, List.getElem_toArray, List.getElem_cons_succ, List.getElem_cons_zero, List.setIfInBounds_toArray, List.set_cons_zero, List.set_cons_succ]
            refine wpAnyH_done (by kernel_rfl) ?_ _
            refine NoPanic.normal ?_
            have hb3 := Below_then hb hHeld.2.2
            clear hHeld
            try (refine hK _ _ ?_; clear hK K)
            go_wp2
            go_roundw
            case rel =>
              refine ⟨j + 2, by omega, by go_num, fun i hi => ?_, hb3⟩
              by_cases e : i = j + 1
              · subst e
                unfold okAt
                rw [HX.out, Nat.add_sub_cancel, HY.out]
                simp [← HQ.out]
                exact HL.out
              · exact HA.out i (by omega)
            case measure => simp [intOf]; omega
    · obtain rfl : k = zs.length := by omega
      have d1 : decide (zs.length < zs.length) = false := by simp
      have e : lsOk zs = decide (zs.length ≤ 10) := lsOk_len HA.out
      have HE := Lib.hid e
      clear e
      by_cases h10 : zs.length ≤ 10
      · have g1 : (zs.length : Int) ≤ 10 := by omega
        go_wp2
        go_ret
        exact ⟨retB (by rw [HE.out]; simpa using h10), hb⟩
      · have g1 : ¬ (zs.length : Int) ≤ 10 := by omega
        go_wp2
        go_ret
        exact ⟨retB (by rw [HE.out]; simpa using h10), hb⟩
set_option maxHeartbeats 2000000 in
theorem l17Has_any (A : Option Addr) (c : Nat) (zs : List ByteArray) (s : ByteArray) (w : World) (h : RdS w A zs) (hx : zs.length ≤ 1048576) :
    Calls Tryz.prog 61 #[.slice A zs.length c, .string s] w fun e w' => e = .returned (.bool (hasB zs s)) ∧ w = w' := by
  go_enter Tryz.func61, Tryz.ntmps61
  go_wp2_with fail
  go_loopw [5] (fun i wr => ∃ k : Nat, k ≤ zs.length ∧ i = .int .i64 k ∧ (∀ j x, j < k → zs[j]? = some x → x ≠ s) ∧ w = wr) (fun i _ => zs.length - (intOf i).toNat)
  case atStart => exact ⟨0, Nat.zero_le _, rfl, fun j _ hj => absurd hj (by omega), rfl⟩
  case round =>
    obtain ⟨k, hk, rfl, hall, rfl⟩ := hrel
    have HA := Lib.hid hall
    clear hall
    by_cases hlt : k < zs.length
    · obtain ⟨b, off, rfl, c1, -⟩ := h.at_ hlt
      obtain ⟨x, hx⟩ : ∃ x, x = zs[k] := ⟨_, rfl⟩
      rw [← hx] at c1
      have hxk : zs[k]? = some x := by rw [hx]; exact List.getElem?_eq_getElem hlt
      have HX := Lib.hid hxk
      have i1 : (k : Int) < (zs.length : Int) := by omega
      have d1 : decide (k < zs.length) = true := by simpa using hlt
      clear hx hxk
      by_cases he : x = s
      · have g1 : (x.toList == s.toList) = true := eqS_iff.2 he
        have HE := Lib.hid he
        clear he
        go_wp2
        go_ret
        exact ⟨retB (hasB_iff.2 (by rw [← HE.out]; exact List.mem_of_getElem? HX.out)).symm, rfl⟩
      · have g1 : (x.toList == s.toList) = false := eqS_ne he
        have HE := Lib.hid he
        clear he
        go_wp2
        go_roundw
        case rel =>
          refine ⟨k + 1, by omega, by go_num, fun j x' hj hx' => ?_, by first | trivial | rfl⟩
          by_cases e : j = k
          · subst e
            rw [HX.out] at hx'
            injection hx' with hx'
            subst hx'
            exact HE.out
          · exact HA.out j x' (by omega) hx'
        case measure => simp [intOf]; omega
    · obtain rfl : k = zs.length := by omega
      have d1 : decide (zs.length < zs.length) = false := by simp
      go_wp2
      go_ret
      refine ⟨retB ?_, rfl⟩
      symm
      rw [Bool.eq_false_iff]
      intro hh
      obtain ⟨j, hj⟩ := List.getElem?_of_mem (hasB_iff.1 hh)
      exact HA.out j s (List.getElem?_eq_some_iff.1 hj).1 hj rfl
end Go.Proofs.YtjkfmnmgelmbfaaGreatDoor
/-! ### Cnt -/
namespace Go.Proofs.YtjkfmnmgelmbfaaGreatDoor
open Go.ChangeShapes Go.WideShapes Go.ChangeAt Go.RowKit
set_option linter.unusedVariables false
set_option linter.unusedSimpArgs false
def cnt (a : ArmsD) (zs : List ByteArray) : Int := ((zs.filter (hasB (featL a))).length : Nat)
theorem num0 (w : World) : Calls Tryz.prog 75 #[.bool false] w fun e w' => e = .returned (.int .i64 0) ∧ w' = w := by
  go_enter Tryz.func75, Tryz.ntmps75
  go_wp2
  go_ret
  exact ⟨rfl, rfl⟩
theorem num1 (w : World) : Calls Tryz.prog 75 #[.bool true] w fun e w' => e = .returned (.int .i64 1) ∧ w' = w := by
  go_enter Tryz.func75, Tryz.ntmps75
  go_wp2
  go_ret
  exact ⟨rfl, rfl⟩
set_option maxHeartbeats 4000000 in
theorem shared_any (a : ArmsD) (ga : armsOk a = true) (A : Option Addr) (c : Nat) (zs : List ByteArray) (w : World) (h : RdS w A zs) (hx : zs.length ≤ 1048576) :
    Calls Tryz.prog 42 #[.agg (ac a).toArray, .slice A zs.length c] w fun e w' => e = .returned (.int .i64 (cnt a zs)) ∧ Below w.heap.size w w' := by
  have HB := Lib.hid (fun w' hb => boxR a (w := w) (w' := w') hb)
  have hW : Below w.heap.size w (w.alloc (.cells (ac a).toArray 52)) := Below_al (Below.refl _ _) _
  have KF := Lib.hid (fun w => features_any a ga w)
  have HFL := Lib.hid (featL_len a)
  unfold cnt
  clear ga
  obtain ⟨fs, hfs⟩ : ∃ fs, fs = featL a := ⟨_, rfl⟩
  rw [← hfs] at KF HFL
  rw [← hfs]
  clear hfs
  go_enter Tryz.func42, Tryz.ntmps42
  go_wp2_with (first | (refine ldA15 rfl _ rfl w.heap.size _ rfl a (HB.out _ (Below.refl _ _)) ?_) | fail)
  refine (KF.out _).mono ?_
  rintro e w1 ⟨v, rfl, hO, hb1⟩
  obtain ⟨A', c', rfl, hr⟩ := hO.form
  have hT := Below_then hW hb1
  have hz := h.below hT
  clear hb1 hW hO
  go_wp2_with fail
  go_loopw [5, 13] (fun n i wr => ∃ k : Nat, k ≤ zs.length ∧ i = .int .i64 k ∧ n = .int .i64 (((zs.take k).filter (hasB fs)).length : Nat) ∧ w1 = wr) (fun _ i _ => zs.length - (intOf i).toNat)
  case atStart => exact ⟨0, Nat.zero_le _, rfl, by simp, rfl⟩
  case round =>
    obtain ⟨k, hk, rfl, rfl, rfl⟩ := hrel
    by_cases hlt : k < zs.length
    · obtain ⟨b, off, rfl, c1, -⟩ := hz.at_ hlt
      obtain ⟨x, hxk⟩ : ∃ x, x = zs[k] := ⟨_, rfl⟩
      rw [← hxk] at c1
      have hst : (zs.take (k + 1)).filter (hasB fs) = (zs.take k).filter (hasB fs) ++ [x].filter (hasB fs) := by rw [List.take_succ_eq_append_getElem hlt, List.filter_append, hxk]
      have hln : ((zs.take k).filter (hasB fs)).length ≤ k := by
        have h1 := List.length_filter_le (hasB fs) (zs.take k)
        rw [List.length_take] at h1
        omega
      have hle : ((zs.take (k + 1)).filter (hasB fs)).length = ((zs.take k).filter (hasB fs)).length + ([x].filter (hasB fs)).length := by rw [hst, List.length_append]
      obtain ⟨m, hm⟩ : ∃ m, m = ((zs.take k).filter (hasB fs)).length := ⟨_, rfl⟩
      rw [← hm] at hln hle ⊢
      have HLE := Lib.hid hle
      have i1 : (k : Int) < (zs.length : Int) := by omega
      have d1 : decide (k < zs.length) = true := by simpa using hlt
      have KH := hasS_any A' c' fs x _ hr (by have := HFL.out; omega)
      obtain ⟨q, hq⟩ : ∃ q, q = hasB fs x := ⟨_, rfl⟩
      rw [← hq] at KH
      have KH := Lib.hid KH
      have HQ := Lib.hid hq
      clear hq hxk hst hm hle
      cases q
      · skip
        go_wp2_with fail
        refine KH.out.mono ?_
        rintro e w9 ⟨rfl, rfl⟩
        go_wp2_with fail
        refine (num0 _).mono ?_
        rintro e w9 ⟨rfl, rfl⟩
        go_wp2
        go_roundw
        case rel => exact ⟨k + 1, by omega, by go_num, by rw [HLE.out]; simp [← HQ.out], (by first | trivial | rfl)⟩
        case measure => simp [intOf]; omega
      · skip
        go_wp2_with fail
        refine KH.out.mono ?_
        rintro e w9 ⟨rfl, rfl⟩
        go_wp2_with fail
        refine (num1 _).mono ?_
        rintro e w9 ⟨rfl, rfl⟩
        go_wp2
        go_roundw
        case rel => exact ⟨k + 1, by omega, by go_num, by rw [HLE.out]; simp [← HQ.out], (by first | trivial | rfl)⟩
        case measure => simp [intOf]; omega
    · obtain rfl : k = zs.length := by omega
      have d1 : decide (zs.length < zs.length) = false := by simp
      rw [List.take_length]
      go_wp2
      go_ret
      exact ⟨rfl, hT⟩
set_option maxHeartbeats 4000000 in
theorem l17Count_any (a : ArmsD) (ga : armsOk a = true) (A : Option Addr) (c : Nat) (zs : List ByteArray) (w : World) (h : RdS w A zs) (hx : zs.length ≤ 1048576) :
    Calls Tryz.prog 36 #[.agg (ac a).toArray, .slice A zs.length c] w fun e w' => e = .returned (.int .i64 (cnt a zs)) ∧ Below w.heap.size w w' := by
  have HB := Lib.hid (fun w' hb => boxR a (w := w) (w' := w') hb)
  have hW : Below w.heap.size w (w.alloc (.cells (ac a).toArray 52)) := Below_al (Below.refl _ _) _
  have KF := Lib.hid (fun w => l17Features_any a ga w)
  have HFL := Lib.hid (featL_len a)
  unfold cnt
  clear ga
  obtain ⟨fs, hfs⟩ : ∃ fs, fs = featL a := ⟨_, rfl⟩
  rw [← hfs] at KF HFL
  rw [← hfs]
  clear hfs
  go_enter Tryz.func36, Tryz.ntmps36
  go_wp2_with (first | (refine ldA15 rfl _ rfl w.heap.size _ rfl a (HB.out _ (Below.refl _ _)) ?_) | fail)
  refine (KF.out _).mono ?_
  rintro e w1 ⟨v, rfl, hO, hb1⟩
  obtain ⟨A', c', rfl, hr⟩ := hO.form
  have hT := Below_then hW hb1
  have hz := h.below hT
  clear hb1 hW hO
  go_wp2_with fail
  go_loopw [5, 7] (fun n i wr => ∃ k : Nat, k ≤ zs.length ∧ i = .int .i64 k ∧ n = .int .i64 (((zs.take k).filter (hasB fs)).length : Nat) ∧ w1 = wr) (fun _ i _ => zs.length - (intOf i).toNat)
  case atStart => exact ⟨0, Nat.zero_le _, rfl, by simp, rfl⟩
  case round =>
    obtain ⟨k, hk, rfl, rfl, rfl⟩ := hrel
    by_cases hlt : k < zs.length
    · obtain ⟨b, off, rfl, c1, -⟩ := hz.at_ hlt
      obtain ⟨x, hxk⟩ : ∃ x, x = zs[k] := ⟨_, rfl⟩
      rw [← hxk] at c1
      have hst : (zs.take (k + 1)).filter (hasB fs) = (zs.take k).filter (hasB fs) ++ [x].filter (hasB fs) := by rw [List.take_succ_eq_append_getElem hlt, List.filter_append, hxk]
      have hln : ((zs.take k).filter (hasB fs)).length ≤ k := by
        have h1 := List.length_filter_le (hasB fs) (zs.take k)
        rw [List.length_take] at h1
        omega
      have hle : ((zs.take (k + 1)).filter (hasB fs)).length = ((zs.take k).filter (hasB fs)).length + ([x].filter (hasB fs)).length := by rw [hst, List.length_append]
      obtain ⟨m, hm⟩ : ∃ m, m = ((zs.take k).filter (hasB fs)).length := ⟨_, rfl⟩
      rw [← hm] at hln hle ⊢
      have HLE := Lib.hid hle
      have i1 : (k : Int) < (zs.length : Int) := by omega
      have d1 : decide (k < zs.length) = true := by simpa using hlt
      have KH := l17Has_any A' c' fs x _ hr (by have := HFL.out; omega)
      obtain ⟨q, hq⟩ : ∃ q, q = hasB fs x := ⟨_, rfl⟩
      rw [← hq] at KH
      have KH := Lib.hid KH
      have HQ := Lib.hid hq
      clear hq hxk hst hm hle
      cases q
      · skip
        go_wp2_with fail
        refine KH.out.mono ?_
        rintro e w9 ⟨rfl, rfl⟩
        go_wp2
        go_roundw
        case rel => exact ⟨k + 1, by omega, by go_num, by rw [HLE.out]; simp [← HQ.out], (by first | trivial | rfl)⟩
        case measure => simp [intOf]; omega
      · skip
        go_wp2_with fail
        refine KH.out.mono ?_
        rintro e w9 ⟨rfl, rfl⟩
        go_wp2
        go_roundw
        case rel => exact ⟨k + 1, by omega, by go_num, by rw [HLE.out]; simp [← HQ.out], (by first | trivial | rfl)⟩
        case measure => simp [intOf]; omega
    · obtain rfl : k = zs.length := by omega
      have d1 : decide (zs.length < zs.length) = false := by simp
      rw [List.take_length]
      go_wp2
      go_ret
      exact ⟨rfl, hT⟩
end Go.Proofs.YtjkfmnmgelmbfaaGreatDoor
/-! ### Look -/
namespace Go.Proofs.YtjkfmnmgelmbfaaGreatDoor
open Go.ChangeShapes Go.WideShapes Go.ChangeAt Go.RowKit
set_option linter.unusedVariables false
set_option linter.unusedSimpArgs false
theorem lookL_len (rows : List GrantD) (zs : List ByteArray) : (bif regOk rows && lsOk zs then nums rows (fun g => decide (cnt g.a zs = zs.length)) else []).length ≤ rows.length := by
  cases regOk rows && lsOk zs
  · simp
  · exact nums_len rows _
theorem cf_look (args : Array Value) (w : World) : (callFunc 41 args).run Tryz.prog w = .ok (.enter 41 args) w := by kernel_rfl
set_option maxHeartbeats 2000000 in
theorem look_cl (g : GrantD) (A2 : Option Addr) (c2 B : Nat) (zs : List ByteArray) (w : World) (gg : armsOk g.a = true) (hB : w.cell? ⟨B, 0, none⟩ = some (.slice A2 zs.length c2)) (h2 : RdS w A2 zs) (hx : zs.length ≤ 1048576) :
    Calls Tryz.prog 41 #[.agg (gc g).toArray, .pointer (some ⟨B, 0, none⟩)] w fun e w' => e = .returned (.bool (decide (cnt g.a zs = zs.length))) ∧ Below w.heap.size w w' := by
  have KC := Lib.hid (fun w' (hb : Below w.heap.size w w') => shared_any g.a gg A2 c2 zs w' (h2.below hb) hx)
  have hA := (gblk_cells (heap_hit w (.cells (gc g).toArray 70) _ rfl)).2.2.2
  have cB := keep_cell hB (Below_al (Below.refl w.heap.size w) (.cells (gc g).toArray 70))
  have hW : Below w.heap.size w (w.alloc (.cells (gc g).toArray 70)) := Below_al (Below.refl _ _) _
  obtain ⟨n, hn⟩ : ∃ n, n = cnt g.a zs := ⟨_, rfl⟩
  rw [← hn] at KC ⊢
  clear hn gg
  by_cases he : n = (zs.length : Int)
  all_goals
    have hq : (n == (zs.length : Int)) = decide (n = zs.length) := rfl
    go_enter Tryz.func41, Tryz.ntmps41
    go_wp2_with fail
    generalize w.alloc (.cells (gc g).toArray 70) = W0 at hA cB hW ⊢
    refine wp_region_noPanic ?_
    refine wp_region_held_drew (S := (fun w' => w'.rangeAt w.heap.size 3 (ac g.a) ∧ w'.cell? ⟨B, 0, none⟩ = some (.slice A2 zs.length c2 : Value) ∧ Below W0.heap.size W0 w')) (by kernel_rfl) ⟨hA, cB, (Below.refl _ _).drew⟩ (fun hHeld => ?_)
    refine wpAnyH_take (i := 0) (oi := _) (v := ?_) rfl (by kernel_rfl) (by kernel_rfl) (by kernel_rfl) (fun _ _ _ h => h) (Or.inl ⟨by rfl, ?_⟩) (by assumption) ?_
    rotate_left
    · intro w hSw; clear hSw; first | (go_simp; done) | (go_simp; with_reducible rfl)
    simp only [Act.put, List.getElem_toArray, List.getElem_cons_succ, List.getElem_cons_zero, List.setIfInBounds_toArray, List.set_cons_zero, List.set_cons_succ]
    refine wpAnyH_take (i := 1) (oi := _) (v := _) rfl ?g1_1 ?g2_1 ?g3_1 (fun _ _ _ h => h) (yieldsIf_load_mid ?g4_1 _ _ rfl w.heap.size ?oo_1 ?g5_1 (ac g.a) _ ?g6_1 Tryz.underlying52 rfl (info_ac g.a)) ?g7_1 ?_
    case g5_1 => rfl
    case g1_1 => kernel_rfl
    case g2_1 => kernel_rfl
    case g3_1 => kernel_rfl
    case g6_1 => exact (fun _ h => h.1)
    case g4_1 => kernel_rfl
    case g7_1 => assumption
    simp only [Act.put, List.getElem_toArray, List.getElem_cons_succ, List.getElem_cons_zero, List.setIfInBounds_toArray, List.set_cons_zero, List.set_cons_succ]
    refine wpAnyH_take (i := 2) (oi := _) (v := ?_) rfl (by kernel_rfl) (by kernel_rfl) (by kernel_rfl) (fun _ _ _ h => h) (Or.inl ⟨by rfl, ?_⟩) (by assumption) ?_
    rotate_left
    · intro w hSw; (try dsimp only at hSw); first | (go_simp; done) | (go_simp; with_reducible rfl)
    simp only [Act.put, List.getElem_toArray, List.getElem_cons_succ, List.getElem_cons_zero, List.setIfInBounds_toArray, List.set_cons_zero, List.set_cons_succ]
    refine wpAnyH_take (i := 4) (oi := _) (v := ?_) rfl (by kernel_rfl) (by kernel_rfl) (by kernel_rfl) (fun _ _ _ h => h) (Or.inl ⟨by rfl, ?_⟩) (by assumption) ?_
    rotate_left
    · intro w hSw; (try dsimp only at hSw); first | (go_simp; done) | (go_simp; with_reducible rfl)
    simp only [Act.put, List.getElem_toArray, List.getElem_cons_succ, List.getElem_cons_zero, List.setIfInBounds_toArray, List.set_cons_zero, List.set_cons_succ]
    refine wpAnyH_take (i := 5) (oi := _) (v := ?_) rfl (by kernel_rfl) (by kernel_rfl) (by kernel_rfl) (fun _ _ _ h => h) (Or.inl ⟨by rfl, ?_⟩) (by assumption) ?_
    rotate_left
    · intro w hSw; clear hSw; first | (go_simp; done) | (go_simp; with_reducible rfl)
    simp only [Act.put, List.getElem_toArray, List.getElem_cons_succ, List.getElem_cons_zero, List.setIfInBounds_toArray, List.set_cons_zero, List.set_cons_succ]
    refine wpAnyH_ready (rs := [3]) (by kernel_rfl) (by simp) ?_
    refine AllReadyH.cons (o := _) rfl (fun K hK => ?_) AllReadyH.nil
    go_simp
    refine (KC.out _ (Below_then hW hHeld.2.2)).mono ?_
    rintro e x2 ⟨rfl, hx2⟩
    go_wp2_with fail
    refine hK.out _ _ ⟨rangeAt_below hHeld.1 hx2, keep_cell hHeld.2.1 hx2, Below_then hHeld.2.2 hx2⟩ (fun hHeld => ?_)
    clear hK K
    try simp only [Act.put, List.getElem_toArray, List.getElem_cons_succ, List.getElem_cons_zero, List.setIfInBounds_toArray, List.set_cons_zero, List.set_cons_succ]
    refine wpAnyH_take (i := 6) (oi := _) (v := ?_) rfl (by kernel_rfl) (by kernel_rfl) (by kernel_rfl) (fun _ _ _ h => h) (Or.inl ⟨by rfl, ?_⟩) (by assumption) ?_
    rotate_left
    · intro w hSw; clear hSw; first | (go_simp; done) | (go_simp; with_reducible rfl)
    simp only [Act.put, List.getElem_toArray, List.getElem_cons_succ, List.getElem_cons_zero, List.setIfInBounds_toArray, List.set_cons_zero, List.set_cons_succ]
    refine wpAnyH_take (i := 7) (oi := _) (v := ?_) rfl (by kernel_rfl) (by kernel_rfl) (by kernel_rfl) (fun _ _ _ h => h) (Or.inl ⟨by rfl, ?_⟩) (by assumption) ?_
    rotate_left
    · intro w hSw; clear hSw; first | (go_simp; done) | (go_simp; with_reducible rfl)
    simp only [Act.put, List.getElem_toArray, List.getElem_cons_succ, List.getElem_cons_zero, List.setIfInBounds_toArray, List.set_cons_zero, List.set_cons_succ]
    refine wpAnyH_done (by kernel_rfl) ?_ _
    refine NoPanic.normal ?_
    have hb := hW.trans (hHeld.2.2.mono hW.size)
    clear hHeld
    try (refine hK _ _ ?_; clear hK K)
    go_wp2
    go_ret
    exact ⟨by first | rfl | simp [he], hb⟩
set_option maxHeartbeats 2000000 in
theorem implLookUp_any (A : Option Addr) (c : Nat) (rows : List GrantD) (A2 : Option Addr) (c2 : Nat) (zs : List ByteArray) (w : World) (hr : RdR 18 w A (gcs rows)) (hl : rows.length ≤ 1048576) (hs : ∀ g ∈ rows, g.s.size ≤ maxLen) (h2 : RdS w A2 zs) (hx : zs.length ≤ 1048576) (hm : ∀ s ∈ zs, s.size ≤ maxLen) (hcap : rows.length ≤ c) (hcm : c ≤ maxLen) :
    Calls Tryz.prog 13 #[.agg #[.slice A rows.length c], .slice A2 zs.length c2] w (IntsOk w (bif regOk rows && lsOk zs then nums rows (fun g => decide (cnt g.a zs = zs.length)) else []) (regOk rows && lsOk zs)) := by
  have KV := Lib.hid (fun (w' : World) (hb : Below w.heap.size w w') => IsValidRegister_any A c rows w' (hr.below hb) hl hs hcap hcm)
  have KL := Lib.hid (fun (w' : World) (hb : Below w.heap.size w w') => areFeatures_any A2 c2 zs w' (h2.below hb) hx hm)
  have HH := Lib.hid hr
  have H2 := Lib.hid h2
  clear hs hm hr h2
  cases q : regOk rows
  · rw [q] at KV
    clear q KL
    go_enter Tryz.func13, Tryz.ntmps13
    go_wp2_with fail
    refine (KV.out _ (Below_al (Below_al (Below.refl _ _) _) _)).mono ?_
    rintro e w1 ⟨rfl, hb1⟩
    have hR := heap_keepB (heap_keepA (heap_hit w (.cells #[.slice A rows.length c] 33) _ rfl) (.cells #[.slice A2 zs.length c2] 25)) hb1
    have hF := heap_keepB (heap_hit (w.alloc (.cells #[.slice A rows.length c] 33)) (.cells #[.slice A2 zs.length c2] 25) (w.heap.size + 1) (by simp)) hb1
    have cR := cell_of hR 0
    have cF := cell_of hF 0
    have hT : Below w.heap.size w w1 := Below_then (Below_al (Below_al (Below.refl _ _) _) _) hb1
    clear hb1
    go_wp2
    go_ret2
    exact ⟨_, rfl, OwnI.nil _ _ _, hT⟩
  · rw [q] at KV
    cases q2 : lsOk zs
    · rw [q2] at KL
      clear q q2
      go_enter Tryz.func13, Tryz.ntmps13
      go_wp2_with fail
      refine (KV.out _ (Below_al (Below_al (Below.refl _ _) _) _)).mono ?_
      rintro e w1 ⟨rfl, hb1⟩
      have hR := heap_keepB (heap_keepA (heap_hit w (.cells #[.slice A rows.length c] 33) _ rfl) (.cells #[.slice A2 zs.length c2] 25)) hb1
      have hF := heap_keepB (heap_hit (w.alloc (.cells #[.slice A rows.length c] 33)) (.cells #[.slice A2 zs.length c2] 25) (w.heap.size + 1) (by simp)) hb1
      have cR := cell_of hR 0
      have cF := cell_of hF 0
      have hT : Below w.heap.size w w1 := Below_then (Below_al (Below_al (Below.refl _ _) _) _) hb1
      clear hb1
      go_wp2_with fail
      refine (KL.out _ hT).mono ?_
      rintro e w2 ⟨rfl, hb2⟩
      have hT := Below_then hT hb2
      clear hb2 hR hF cR cF
      go_wp2
      go_ret2
      exact ⟨_, rfl, OwnI.nil _ _ _, hT⟩
    · rw [q2] at KL
      have HQ := Lib.hid q
      clear q q2
      go_enter Tryz.func13, Tryz.ntmps13
      go_wp2_with fail
      refine (KV.out _ (Below_al (Below_al (Below.refl _ _) _) _)).mono ?_
      rintro e w1 ⟨rfl, hb1⟩
      have hR := heap_keepB (heap_keepA (heap_hit w (.cells #[.slice A rows.length c] 33) _ rfl) (.cells #[.slice A2 zs.length c2] 25)) hb1
      have hF := heap_keepB (heap_hit (w.alloc (.cells #[.slice A rows.length c] 33)) (.cells #[.slice A2 zs.length c2] 25) (w.heap.size + 1) (by simp)) hb1
      have cR := cell_of hR 0
      have cF := cell_of hF 0
      have hT : Below w.heap.size w w1 := Below_then (Below_al (Below_al (Below.refl _ _) _) _) hb1
      clear hb1
      go_wp2_with fail
      refine (KL.out _ hT).mono ?_
      rintro e w2 ⟨rfl, hb2⟩
      have hT := Below_then hT hb2
      have hR := heap_keepB hR hb2
      have hF := heap_keepB hF hb2
      have cR := cell_of hR 0
      have cF := Lib.hid (cell_of hF 0)
      have hsz := hT.size
      clear hb2 hF
      go_wp2_with fail
      refine (numbers_any 41 #[.pointer (some ⟨w.heap.size + 1, 0, none⟩)] A c rows (fun g => decide (cnt g.a zs = zs.length)) w2 (HH.out.below hT) hl cf_look (fun g w' hg hb => look_cl g A2 c2 (w.heap.size + 1) zs w' (regOk_mem HQ.out hg) (keep_cell cF.out hb) ((H2.out.below hT).below hb) hx)).mono ?_
      rintro e w3 ⟨v, rfl, hO, hb3⟩
      have hT3 := Below_then hT hb3
      clear hb3 hR cR hT
      go_wp2
      go_ret2
      exact ⟨_, rfl, OwnI.base hO hsz, hT3⟩
set_option maxHeartbeats 4000000 in
theorem specLookUp_any (A : Option Addr) (c : Nat) (rows : List GrantD) (A2 : Option Addr) (c2 : Nat) (zs : List ByteArray) (w : World) (hr : RdR 18 w A (gcs rows)) (hl : rows.length ≤ 1048576) (hs : ∀ g ∈ rows, g.s.size ≤ maxLen) (h2 : RdS w A2 zs) (hx : zs.length ≤ 1048576) (hm : ∀ s ∈ zs, s.size ≤ maxLen) :
    Calls Tryz.prog 10 #[.agg #[.slice A rows.length c], .slice A2 zs.length c2] w (IntsOk w (bif regOk rows && lsOk zs then nums rows (fun g => decide (cnt g.a zs = zs.length)) else []) (regOk rows && lsOk zs)) := by
  have KV := Lib.hid (fun (w' : World) (hb : Below w.heap.size w w') => l16Good_any A c rows w' (hr.below hb) hl hs)
  have KL := Lib.hid (fun (w' : World) (hb : Below w.heap.size w w') => l17List_any A2 c2 zs w' (h2.below hb) hx hm)
  have HH := Lib.hid hr
  have H2 := Lib.hid h2
  have hO0 : OwnI ((w.alloc (.cells #[.slice A rows.length c] 33)).alloc (.cells #[] 3)) (w.heap.size + 1) 3 (.slice (some ⟨w.heap.size + 1, 0, none⟩) 0 0) [] := OwnI.none0 _ _ _ (by simp) (by omega)
  clear hs hm hr h2
  cases q : regOk rows
  · rw [q] at KV
    clear q KL
    go_enter Tryz.func10, Tryz.ntmps10
    go_wp2_with fail
    refine (KV.out _ (Below_al (Below_al (Below.refl _ _) _) _)).mono ?_
    rintro e w1 ⟨rfl, hb1⟩
    have hR := heap_keepB (heap_keepA (heap_hit w (.cells #[.slice A rows.length c] 33) _ rfl) (.cells #[] 3)) hb1
    have cR := cell_of hR 0
    have hT : Below w.heap.size w w1 := Below_then (Below_al (Below_al (Below.refl _ _) _) _) hb1
    have hO := hO0.below hb1
    clear hb1 hO0
    go_wp2
    go_ret2
    exact ⟨_, rfl, OwnI.base hO (by omega), hT⟩
  · rw [q] at KV
    cases q2 : lsOk zs
    · rw [q2] at KL
      clear q q2
      go_enter Tryz.func10, Tryz.ntmps10
      go_wp2_with fail
      refine (KV.out _ (Below_al (Below_al (Below.refl _ _) _) _)).mono ?_
      rintro e w1 ⟨rfl, hb1⟩
      have hR := heap_keepB (heap_keepA (heap_hit w (.cells #[.slice A rows.length c] 33) _ rfl) (.cells #[] 3)) hb1
      have cR := cell_of hR 0
      have hT : Below w.heap.size w w1 := Below_then (Below_al (Below_al (Below.refl _ _) _) _) hb1
      have hO := hO0.below hb1
      clear hb1 hO0
      go_wp2_with fail
      refine (KL.out _ hT).mono ?_
      rintro e w2 ⟨rfl, hb2⟩
      have hT := Below_then hT hb2
      have hO := hO.below hb2
      clear hb2 hR cR
      go_wp2
      go_ret2
      exact ⟨_, rfl, OwnI.base hO (by omega), hT⟩
    · rw [q2] at KL
      have HQ := Lib.hid q
      clear q q2
      go_enter Tryz.func10, Tryz.ntmps10
      go_wp2_with fail
      refine (KV.out _ (Below_al (Below_al (Below.refl _ _) _) _)).mono ?_
      rintro e w1 ⟨rfl, hb1⟩
      have hR := heap_keepB (heap_keepA (heap_hit w (.cells #[.slice A rows.length c] 33) _ rfl) (.cells #[] 3)) hb1
      have cR := cell_of hR 0
      have hT : Below w.heap.size w w1 := Below_then (Below_al (Below_al (Below.refl _ _) _) _) hb1
      have hO := hO0.below hb1
      clear hb1 hO0
      go_wp2_with fail
      refine (KL.out _ hT).mono ?_
      rintro e w2 ⟨rfl, hb2⟩
      have hT := Below_then hT hb2
      have hO := hO.below hb2
      have hR := heap_keepB hR hb2
      clear hb2 cR
      go_wp2_with fail
      go_loopw [6, 7] (fun o i wr => ∃ (k : Nat) (v : Value), k ≤ rows.length ∧ i = .int .i64 k ∧ o = v ∧ OwnI wr (w.heap.size + 1) 3 v (nums (rows.take k) (fun g => decide (cnt g.a zs = zs.length))) ∧ wr.heap[w.heap.size]? = some (.cells #[.slice A rows.length c] 33 (0, 0)) ∧ Below w.heap.size w wr) (fun _ i _ => rows.length - (intOf i).toNat)
      case atStart => exact ⟨0, _, Nat.zero_le _, rfl, rfl, by simpa [nums] using hO, hR, hT⟩
      case round =>
        clear hO hR hT
        obtain ⟨k, v, hk, rfl, hov, hO, hH, hb⟩ := hrel
        replace hov := hov.symm
        subst hov
        have cH := cell_of hH 0
        by_cases hlt : k < rows.length
        · obtain ⟨g, hg⟩ := grant_at hlt
          obtain ⟨b, off, rfl, hr, -⟩ := (HH.out.below hb).grants hg
          obtain ⟨cn, -, -, hga⟩ := gc_cells hr
          have hlen := nums_take rows (fun g => decide (cnt g.a zs = zs.length)) k hk
          have i1 : (k : Int) < (rows.length : Int) := by omega
          have d1 : decide (k < rows.length) = true := by simpa using hlt
          have KC := Lib.hid (fun (w' : World) (hb : Below w.heap.size w w') => l17Count_any g.a (regOk_arms HQ.out hg) A2 c2 zs w' (H2.out.below hb) hx)
          have HG := Lib.hid hg
          have hws := hb.size
          have hAl := heap_lt hH
          obtain ⟨n, hn⟩ : ∃ n, n = cnt g.a zs := ⟨_, rfl⟩
          rw [← hn] at KC
          have HN := Lib.hid hn
          clear hg hn
          by_cases he : n = (zs.length : Int)
          · have hq : (n == (zs.length : Int)) = true := by simpa using he
            have HP := Lib.hid (show decide (cnt g.a zs = (zs.length : Int)) = true by rw [← HN.out]; simpa using he)
            clear he
            go_wp2_with (first | (refine ldA15 rfl _ rfl b _ rfl g.a hga ?_) | fail)
            refine (KC.out _ hb).mono ?_
            rintro e w9 ⟨rfl, sb⟩
            have hO := hO.below sb
            have hH := heap_keepB hH sb
            have hb := Below_then hb sb
            have cn := keep_cell cn sb
            have cH := cell_of hH 0
            have hws := hb.size
            have hAl := heap_lt hH
            have hne := ownBlock_ne (b := w.heap.size) (hO.alloc (.cells #[.int .i64 g.n] 3)) (.inl (by omega))
            clear sb
            go_wp2_with (first | (at_builtin; refine wp_appI rfl _ _ rfl (w.heap.size + 1) _ (nums (rows.take k) (fun g => decide (cnt g.a zs = zs.length))) rfl (hO.alloc _) _ _ rfl (cell_of (heap_hit _ _ _ rfl) 0) ?c1 ?c2 ?_; rotate_left 2; intro v' w9 hO9 hG9 hL9) | fail)
            try (case c1 => omega)
            try (case c2 => (simp; omega))
            have hH9 := heap_keepG (heap_keepA hH _) hG9 hne
            have hT9 := (Below_al hb _).trans (hL9.mono (by omega))
            clear hG9 hL9 hO hH cH hne
            go_wp2
            go_roundw
            case rel => exact ⟨k + 1, _, by omega, by go_num, rfl, by rw [nums_yes HG.out HP.out]; exact hO9, hH9, hT9⟩
            case measure => simp [intOf]; omega
          · have hq : (n == (zs.length : Int)) = false := by simpa using he
            have HP := Lib.hid (show decide (cnt g.a zs = (zs.length : Int)) = false by rw [← HN.out]; simpa using he)
            clear he
            go_wp2_with (first | (refine ldA15 rfl _ rfl b _ rfl g.a hga ?_) | fail)
            refine (KC.out _ hb).mono ?_
            rintro e w9 ⟨rfl, sb⟩
            have hO := hO.below sb
            have hH := heap_keepB hH sb
            have hb := Below_then hb sb
            clear sb cH
            go_wp2
            go_roundw
            case rel => exact ⟨k + 1, _, by omega, by go_num, rfl, by rw [nums_no HG.out HP.out]; exact hO, hH, hb⟩
            case measure => simp [intOf]; omega
        · obtain rfl : k = rows.length := by omega
          have d1 : decide (rows.length < rows.length) = false := by simp
          rw [List.take_length] at hO
          go_wp2
          go_ret2
          exact ⟨_, rfl, OwnI.base hO (by omega), hb⟩
end Go.Proofs.YtjkfmnmgelmbfaaGreatDoor
/-! ### BuildP -/
namespace Go.Proofs.YtjkfmnmgelmbfaaGreatDoor
open Go.ChangeShapes Go.WideShapes Go.ChangeAt Go.RowKit
set_option linter.unusedVariables false
set_option linter.unusedSimpArgs false
theorem featK_mem (c : UInt8) (n : Nat) (h : (c, n) ∈ featK) : ftB c n ∈ FEATS := by
  rw [FEATS_eq]
  exact List.mem_map.2 ⟨(c, n), h, rfl⟩
theorem fi_mem {c : UInt8} {z : Int} {lo hi : Nat} (hz : (lo : Int) ≤ z ∧ z ≤ hi) (h : ∀ n, n < hi + 1 → lo ≤ n → (c, n) ∈ featK) : fi c z ∈ FEATS := featK_mem c _ (h _ (by omega) (by omega))
theorem mem_d : ∀ n, n < 7 + 1 → 0 ≤ n → ((100 : UInt8), n) ∈ featK := by decide
theorem mem_o : ∀ n, n < 7 + 1 → 0 ≤ n → ((111 : UInt8), n) ∈ featK := by decide
theorem mem_t : ∀ n, n < 9 + 1 → 1 ≤ n → ((116 : UInt8), n) ∈ featK := by decide
theorem mem_l : ∀ n, n < 4 + 1 → 1 ≤ n → ((108 : UInt8), n) ∈ featK := by decide
theorem mem_k : ∀ n, n < 8 + 1 → 1 ≤ n → ((107 : UInt8), n) ∈ featK := by decide
theorem mem_n : ∀ n, n < 12 + 1 → 0 ≤ n → ((110 : UInt8), n) ∈ featK := by decide
theorem nz_mem {z x : Int} (h : x ∈ nz z) : x = z ∧ z ≠ 0 := by
  unfold nz at h
  split at h
  · simp at h
  · rename_i hz
    exact ⟨by simpa using h, by simpa using hz⟩
theorem raw2_feats {a : ArmsD} (h : armsOk a = true) {s : ByteArray} (hs : s ∈ raw2 a) : s ∈ FEATS := by
  obtain ⟨f1, f2, f3, f4, f5, f6, f7⟩ := arms_facts h
  unfold raw2 at hs
  simp only [List.mem_append, List.mem_singleton] at hs
  rcases hs with (((((((hs | hs) | hs) | hs) | hs) | hs) | hs) | hs)
  · unfold rawT at hs
    obtain ⟨x, hx, rfl⟩ := List.mem_map.1 hs
    refine fi_mem (lo := 1) (hi := 9) ?_ mem_t
    unfold tinsL at hx
    simp only [List.mem_append] at hx
    rcases hx with ((hx | hx) | hx) | hx
    · unfold tinF at hx
      split at hx
      · simp at hx; omega
      · simp at hx; omega
    · obtain ⟨rfl, hz⟩ := nz_mem hx; omega
    · obtain ⟨rfl, hz⟩ := nz_mem hx; omega
    · obtain ⟨rfl, hz⟩ := nz_mem hx; omega
  · subst hs; exact fi_mem (lo := 0) (hi := 7) (by omega) mem_d
  · subst hs; exact fi_mem (lo := 0) (hi := 7) (by omega) mem_o
  · by_cases q : 0 < a.l
    · rw [decide_eq_true q] at hs
      simp at hs
      subst hs
      exact fi_mem (lo := 1) (hi := 4) (by omega) mem_l
    · rw [decide_eq_false q] at hs
      simp at hs
  · by_cases q : 0 < a.li
    · rw [decide_eq_true q] at hs
      simp at hs
      subst hs
      exact fi_mem (lo := 1) (hi := 4) (by omega) mem_l
    · rw [decide_eq_false q] at hs
      simp at hs
  · cases q : groupNone a.c1 a.k1 a.a1 a.t1
    · rw [q] at hs
      simp at hs
      subst hs
      have : ¬ (a.c1 = 0 ∧ a.k1 = 0 ∧ a.a1 = 0 ∧ a.t1 = 0) := by simpa [groupNone] using q
      exact fi_mem (lo := 1) (hi := 8) (by omega) mem_k
    · rw [q] at hs
      simp at hs
  · cases q : groupNone a.c2 a.k2 a.a2 a.t2
    · rw [q] at hs
      simp at hs
      subst hs
      have : ¬ (a.c2 = 0 ∧ a.k2 = 0 ∧ a.a2 = 0 ∧ a.t2 = 0) := by simpa [groupNone] using q
      exact fi_mem (lo := 1) (hi := 8) (by omega) mem_k
    · rw [q] at hs
      simp at hs
  · subst hs
    exact fi_mem (lo := 0) (hi := 12) (by omega) mem_n
theorem featL_feats {a : ArmsD} (h : armsOk a = true) {s : ByteArray} (hs : s ∈ featL a) : s ∈ FEATS := by
  unfold featL at hs
  rw [putAll_mem] at hs
  exact raw2_feats h hs
/-- A grant has a feature. -/
def hasF (s : ByteArray) (g : GrantD) : Bool := hasB (featL g.a) s
theorem cnt_one (a : ArmsD) (s : ByteArray) : cnt a [s] = if hasB (featL a) s then 1 else 0 := by
  unfold cnt
  by_cases h : hasB (featL a) s = true
  · rw [List.filter_cons_of_pos h, if_pos h]; rfl
  · rw [List.filter_cons_of_neg h, if_neg h]; rfl
theorem hasF_cnt (s : ByteArray) : (fun g : GrantD => decide (cnt g.a [s] = 1)) = hasF s := by
  funext g
  rw [cnt_one]
  unfold hasF
  cases hasB (featL g.a) s <;> rfl
/-- All features of a register, as the reference comes to them. -/
def allR (rows : List GrantD) : List ByteArray := putAll (rows.flatMap fun g => featL g.a)
/-- The features of a register, as the program comes to them. -/
def allI (rows : List GrantD) : List ByteArray := FEATS.filter fun s => decide (0 < (nums rows (hasF s)).length)
theorem all_same {rows : List GrantD} (h : ∀ g ∈ rows, armsOk g.a = true) : allI rows = allR rows := by
  refine ascS_unique _ _ (List.Pairwise.filter _ FEATS_asc) (putAll_asc _) fun x => ?_
  unfold allI allR
  rw [putAll_mem, List.mem_filter, List.mem_flatMap]
  have hp : 0 < (nums rows (hasF x)).length ↔ ∃ g ∈ rows, x ∈ featL g.a := by
    unfold nums
    rw [List.length_map, List.length_pos_iff_exists_mem]
    constructor
    · rintro ⟨g, hg⟩
      rw [List.mem_filter] at hg
      exact ⟨g, hg.1, hasB_iff.1 hg.2⟩
    · rintro ⟨g, hg, hx⟩
      exact ⟨g, List.mem_filter.2 ⟨hg, hasB_iff.2 hx⟩⟩
  rw [decide_eq_true_iff, hp]
  constructor
  · exact fun hh => hh.2
  · rintro ⟨g, hg, hx⟩
    exact ⟨featL_feats (h g hg) hx, g, hg, hx⟩
end Go.Proofs.YtjkfmnmgelmbfaaGreatDoor
/-! ### Rare -/
namespace Go.Proofs.YtjkfmnmgelmbfaaGreatDoor
open Go.ChangeShapes Go.WideShapes Go.ChangeAt Go.RowKit
set_option linter.unusedVariables false
set_option linter.unusedSimpArgs false
def bestL (n : ByteArray → Int) (st : ByteArray × Int) : List ByteArray → ByteArray × Int
  | [] => st
  | s :: t => bestL n (if n s < st.2 then (s, n s) else st) t
theorem bestL_app (n : ByteArray → Int) (x : ByteArray) : ∀ (l : List ByteArray) (st : ByteArray × Int), bestL n st (l ++ [x]) = if n x < (bestL n st l).2 then (x, n x) else bestL n st l
  | [], st => rfl
  | s :: t, st => bestL_app n x t _
theorem bestL_take (n : ByteArray → Int) (st : ByteArray × Int) {l : List ByteArray} {k : Nat} (h : k < l.length) : bestL n st (l.take (k + 1)) = if n l[k] < (bestL n st (l.take k)).2 then (l[k], n l[k]) else bestL n st (l.take k) := by
  rw [List.take_succ_eq_append_getElem h, bestL_app]
theorem bestL_start (n : ByteArray → Int) {l : List ByteArray} (hl : l ≠ []) {x y : ByteArray × Int} (hx : ∀ s ∈ l, n s < x.2) (hy : ∀ s ∈ l, n s < y.2) : bestL n x l = bestL n y l := by
  cases l with
  | nil => exact absurd rfl hl
  | cons s t =>
    rw [bestL, bestL, if_pos (hx s List.mem_cons_self), if_pos (hy s List.mem_cons_self)]
theorem bestL_bound (n : ByteArray → Int) (lo hi : Int) : ∀ (l : List ByteArray) (st : ByteArray × Int), (lo ≤ st.2 ∧ st.2 ≤ hi) → (∀ s ∈ l, lo ≤ n s ∧ n s ≤ hi) → lo ≤ (bestL n st l).2 ∧ (bestL n st l).2 ≤ hi
  | [], st, h, _ => h
  | s :: t, st, h, hn => by
    rw [bestL]
    refine bestL_bound n lo hi t _ ?_ (fun s hs => hn s (List.mem_cons_of_mem _ hs))
    split
    · exact hn s List.mem_cons_self
    · exact h
/-- A sum of noughts and ones is a count. -/
theorem sum_count {α : Type} (f : α → Int) (hf : ∀ a, f a = 0 ∨ f a = 1) : ∀ l : List α, (l.map f).sum = ((l.filter fun a => decide (f a = 1)).length : Nat)
  | [] => rfl
  | a :: t => by
    rw [List.map_cons, List.sum_cons, sum_count f hf t]
    rcases hf a with h | h
    · rw [List.filter_cons_of_neg (by simp [h]), h]; omega
    · rw [List.filter_cons_of_pos (by simp [h]), h, List.length_cons]; omega
theorem sum_take {α : Type} (f : α → Int) {l : List α} {k : Nat} {a : α} (h : l[k]? = some a) : ((l.take (k + 1)).map f).sum = ((l.take k).map f).sum + f a := by
  rw [List.take_add_one, h]
  simp

def cntR (rows : List GrantD) (s : ByteArray) : Int := ((nums rows (hasF s)).length : Nat)
theorem cntR_le (rows : List GrantD) (s : ByteArray) : 0 ≤ cntR rows s ∧ cntR rows s ≤ rows.length := by
  have := nums_len rows (hasF s)
  unfold cntR
  omega
theorem cntR_sum (rows : List GrantD) (s : ByteArray) : (rows.map fun g => cnt g.a [s]).sum = cntR rows s := by
  rw [sum_count (fun g : GrantD => cnt g.a [s]) (fun g => by show cnt g.a [s] = 0 ∨ cnt g.a [s] = 1; rw [cnt_one]; split <;> simp) rows]
  unfold cntR nums
  rw [List.length_map, ← hasF_cnt]
def raOk (rows : List GrantD) (zs : List ByteArray) : Bool := regOk rows && lsOk zs && !zs.isEmpty
def raR (rows : List GrantD) (zs : List ByteArray) (m : Int) : ByteArray × Int := bif raOk rows zs then bestL (cntR rows) (⟨#[]⟩, m) zs else (⟨#[]⟩, 0)
theorem regOk_few {rows : List GrantD} (h : regOk rows = true) : rows.length ≤ 12 := by
  simp [regOk] at h
  omega
theorem ra_same (rows : List GrantD) (zs : List ByteArray) : raR rows zs 13 = raR rows zs (rows.length + 1) := by
  unfold raR
  cases h : raOk rows zs
  · rfl
  · unfold raOk at h
    simp only [Bool.and_eq_true] at h
    have h12 := regOk_few h.1.1
    refine bestL_start _ (fun e => by rw [e] at h; simp at h) (fun s _ => ?_) (fun s _ => ?_)
    · have := cntR_le rows s; simp only; omega
    · have := cntR_le rows s; simp only; omega
def RareOk (w : World) (r : ByteArray × Int) (ok : Bool) (e : Ending) (w' : World) : Prop := e = .returned (.tuple #[.string r.1, .int .i64 r.2, .bool ok]) ∧ Below w.heap.size w w'
theorem rdS_one {w : World} {b : Nat} {s : ByteArray} {T : TypeId} (h : w.heap[b]? = some (.cells #[.string s] T (0, 0))) : RdS w (some ⟨b, 0, none⟩) [s] :=
  .inr ⟨b, 0, rfl, fun i hi => by
    have : i = 0 := by simpa [sv] using hi
    subst this
    rw [cell_of h]
    rfl⟩
theorem cf_rare (args : Array Value) (w : World) : (callFunc 59 args).run Tryz.prog w = .ok (.enter 59 args) w := by kernel_rfl
set_option maxHeartbeats 2000000 in
theorem rare_cl (g : GrantD) (B : Nat) (s : ByteArray) (w : World) (gg : armsOk g.a = true) (hB : w.cell? ⟨B, 0, none⟩ = some (.string s)) :
    Calls Tryz.prog 59 #[.agg (gc g).toArray, .pointer (some ⟨B, 0, none⟩)] w fun e w' => e = .returned (.bool (hasF s g)) ∧ Below w.heap.size w w' := by
  have KC : ∀ (A : Option Addr) (c : Nat) (w' : World), RdS w' A [s] → Calls Tryz.prog 42 #[.agg (ac g.a).toArray, .slice A 1 c] w' fun e w'' => e = .returned (.int .i64 (cnt g.a [s])) ∧ Below w'.heap.size w' w'' := fun A c w' h => shared_any g.a gg A c [s] w' h (by simp)
  have hf : hasF s g = decide (cnt g.a [s] = 1) := by rw [← hasF_cnt]
  have hA := (gblk_cells (heap_hit w (.cells (gc g).toArray 70) _ rfl)).2.2.2
  have cB := keep_cell hB (Below_al (Below.refl w.heap.size w) (.cells (gc g).toArray 70))
  have hr : RdS ((w.alloc (.cells (gc g).toArray 70)).alloc (.cells #[.string s] 9)) (some ⟨w.heap.size + 1, 0, none⟩) [s] := rdS_one (heap_hit _ _ _ (by simp))
  have hW : Below w.heap.size w ((w.alloc (.cells (gc g).toArray 70)).alloc (.cells #[.string s] 9)) := Below_al (Below_al (Below.refl _ _) _) _
  rw [hf]
  obtain ⟨n, hn⟩ : ∃ n, n = cnt g.a [s] := ⟨_, rfl⟩
  rw [← hn] at KC ⊢
  have KC := Lib.hid KC
  clear hn gg hf hB
  by_cases he : n = 1
  all_goals
    have hq : (n == 1) = decide (n = 1) := rfl
    go_enter Tryz.func59, Tryz.ntmps59
    go_wp2_with (first | (refine ldA rfl _ rfl _ _ rfl g.a hA ?_) | fail)
    refine (KC.out _ _ _ hr).mono ?_
    rintro e w1 ⟨rfl, hb1⟩
    go_wp2
    go_ret
    exact ⟨by first | rfl | simp [he], Below_then hW hb1⟩
set_option maxHeartbeats 4000000 in
theorem implRare_any (A : Option Addr) (c : Nat) (rows : List GrantD) (A2 : Option Addr) (c2 : Nat) (zs : List ByteArray) (w : World) (hr : RdR 18 w A (gcs rows)) (hl : rows.length ≤ 1048576) (hs : ∀ g ∈ rows, g.s.size ≤ maxLen) (h2 : RdS w A2 zs) (hx : zs.length ≤ 1048576) (hm : ∀ s ∈ zs, s.size ≤ maxLen) (hcap : rows.length ≤ c) (hcm : c ≤ maxLen) :
    Calls Tryz.prog 27 #[.agg #[.slice A rows.length c], .slice A2 zs.length c2] w (RareOk w (raR rows zs 13) (raOk rows zs)) := by
  have KV := Lib.hid (fun (w' : World) (hb : Below w.heap.size w w') => IsValidRegister_any A c rows w' (hr.below hb) hl hs hcap hcm)
  have KL := Lib.hid (fun (w' : World) (hb : Below w.heap.size w w') => areFeatures_any A2 c2 zs w' (h2.below hb) hx hm)
  have HH := Lib.hid hr
  have H2 := Lib.hid h2
  have hR := heap_hit w (.cells #[.slice A rows.length c] 33) _ rfl
  have hT : Below w.heap.size w (w.alloc (.cells #[.slice A rows.length c] 33)) := Below_al (Below.refl _ _) _
  have cR := cell_of hR 0
  clear hs hm hr h2
  cases q : regOk rows
  · have hk : raOk rows zs = false := by unfold raOk; rw [q]; rfl
    have hf : raR rows zs 13 = (⟨#[]⟩, 0) := by unfold raR; rw [hk]; rfl
    rw [hk, hf]
    rw [q] at KV
    clear q KL hk hf hR
    go_enter Tryz.func27, Tryz.ntmps27
    go_wp2_with fail
    refine (KV.out _ hT).mono ?_
    rintro e w1 ⟨rfl, hb1⟩
    replace hT := Below_then hT hb1
    clear hb1 cR
    go_wp2
    exact bodyPost_ret (by simp [results, Tryz.results27, go_sem]) rfl ⟨rfl, hT⟩
  · rw [q] at KV
    cases q2 : lsOk zs
    · have hk : raOk rows zs = false := by unfold raOk; rw [q2]; simp
      have hf : raR rows zs 13 = (⟨#[]⟩, 0) := by unfold raR; rw [hk]; rfl
      rw [hk, hf]
      rw [q2] at KL
      clear q q2 hk hf hR
      go_enter Tryz.func27, Tryz.ntmps27
      go_wp2_with fail
      refine (KV.out _ hT).mono ?_
      rintro e w1 ⟨rfl, hb1⟩
      replace hT := Below_then hT hb1
      clear hb1 cR
      go_wp2_with fail
      refine (KL.out _ hT).mono ?_
      rintro e w2 ⟨rfl, hb2⟩
      replace hT := Below_then hT hb2
      clear hb2
      go_wp2
      exact bodyPost_ret (by simp [results, Tryz.results27, go_sem]) rfl ⟨rfl, hT⟩
    · rw [q2] at KL
      cases zs with
      | nil =>
        have hk : raOk rows [] = false := by unfold raOk; simp
        have hf : raR rows [] 13 = (⟨#[]⟩, 0) := by unfold raR; rw [hk]; rfl
        rw [hk, hf]
        clear q q2 hk hf hR
        go_enter Tryz.func27, Tryz.ntmps27
        go_wp2_with fail
        refine (KV.out _ hT).mono ?_
        rintro e w1 ⟨rfl, hb1⟩
        replace hT := Below_then hT hb1
        clear hb1 cR
        go_wp2_with fail
        refine (KL.out _ hT).mono ?_
        rintro e w2 ⟨rfl, hb2⟩
        replace hT := Below_then hT hb2
        clear hb2
        go_wp2
        exact bodyPost_ret (by simp [results, Tryz.results27, go_sem]) rfl ⟨rfl, hT⟩
      | cons z0 zt =>
        obtain ⟨zs, hzs⟩ : ∃ zs, zs = z0 :: zt := ⟨_, rfl⟩
        rw [← hzs] at KL H2 hx ⊢
        have hpos : 0 < zs.length := by rw [hzs]; simp
        have hk : raOk rows zs = true := by unfold raOk; rw [q, hzs, q2]; rfl
        have hf : raR rows zs 13 = bestL (cntR rows) (⟨#[]⟩, 13) zs := by unfold raR; rw [hk]; rfl
        rw [hk, hf]
        have HQ := Lib.hid q
        have hz0 : ((zs.length : Int) == 0) = false := by rw [beq_eq_false_iff_ne]; omega
        clear q q2 hk hf hzs
        go_enter Tryz.func27, Tryz.ntmps27
        go_wp2_with fail
        refine (KV.out _ hT).mono ?_
        rintro e w1 ⟨rfl, hb1⟩
        replace hT := Below_then hT hb1
        replace hR := heap_keepB hR hb1
        clear hb1 cR
        go_wp2_with fail
        refine (KL.out _ hT).mono ?_
        rintro e w2 ⟨rfl, hb2⟩
        replace hT := Below_then hT hb2
        replace hR := heap_keepB hR hb2
        clear hb2
        go_wp2_with fail
        go_loopw [7, 8, 27] (fun b l i wr => ∃ k : Nat, k ≤ zs.length ∧ i = .int .i64 k ∧ b = .string (bestL (cntR rows) (⟨#[]⟩, 13) (zs.take k)).1 ∧ l = .int .i64 (bestL (cntR rows) (⟨#[]⟩, 13) (zs.take k)).2 ∧ wr.heap[w.heap.size]? = some (.cells #[.slice A rows.length c] 33 (0, 0)) ∧ Below w.heap.size w wr) (fun _ _ i _ => zs.length - (intOf i).toNat)
        case atStart => exact ⟨0, Nat.zero_le _, rfl, rfl, rfl, hR, hT⟩
        case round =>
          clear hR hT
          obtain ⟨k, hk, rfl, rfl, rfl, hR, hT⟩ := hrel
          by_cases hlt : k < zs.length
          · have hst := bestL_take (cntR rows) (⟨#[]⟩, 13) hlt
            obtain ⟨b, off, rfl, c1, -⟩ := (H2.out.below hT).at_ hlt
            obtain ⟨x, hxk⟩ : ∃ x, x = zs[k] := ⟨_, rfl⟩
            rw [← hxk] at c1 hst
            obtain ⟨st, hstk⟩ : ∃ st, st = bestL (cntR rows) (⟨#[]⟩, 13) (zs.take k) := ⟨_, rfl⟩
            rw [← hstk] at hst ⊢
            have HST := Lib.hid hst
            obtain ⟨sb, sl⟩ := st
            simp only
            have i1 : (k : Int) < (zs.length : Int) := by omega
            have d1 : decide (k < zs.length) = true := by simpa using hlt
            have cR := keep_cell (cell_of hR 0) (Below_al (Below.refl wr.heap.size wr) (.cells #[.string x] 9))
            have hT2 := Below_al hT (.cells #[.string x] 9)
            have hR2 := heap_keepA hR (.cells #[.string x] 9)
            have cX := cell_of (heap_hit wr (.cells #[.string x] 9) _ rfl) 0
            have KN := numbers_any 59 #[.pointer (some ⟨wr.heap.size, 0, none⟩)] A c rows (hasF x) (wr.alloc (.cells #[.string x] 9)) (HH.out.below hT2) hl cf_rare (fun g w' hg hb => rare_cl g wr.heap.size x w' (regOk_mem HQ.out hg) (keep_cell cX hb))
            have KN := Lib.hid KN
            obtain ⟨m, hm⟩ : ∃ m : Nat, m = (nums rows (hasF x)).length := ⟨_, rfl⟩
            have HM := Lib.hid hm
            have hcx : cntR rows x = (m : Int) := by unfold cntR; rw [hm]
            have HCX := Lib.hid hcx
            clear hst hstk hxk hm hcx hT hR
            go_wp2_with fail
            refine KN.out.mono ?_
            rintro e w3 ⟨v, rfl, hO, hb3⟩
            obtain ⟨A3, c3, rfl, -⟩ := hO.form
            rw [← HM.out]
            have hT := Below_then hT2 hb3
            have hR := heap_keepB hR2 hb3
            have cX := keep_cell cX hb3
            clear hO hb3 hT2 hR2 cR
            by_cases hq : (m : Int) < sl
            · go_wp2
              go_roundw
              case rel => exact ⟨k + 1, by omega, by go_num, by rw [HST.out, HCX.out, if_pos hq], by rw [HST.out, HCX.out, if_pos hq], hR, hT⟩
              case measure => simp [intOf]; omega
            · go_wp2
              go_roundw
              case rel => exact ⟨k + 1, by omega, by go_num, by rw [HST.out, HCX.out, if_neg (by omega)], by rw [HST.out, HCX.out, if_neg (by omega)], hR, hT⟩
              case measure => simp [intOf]; omega
          · obtain rfl : k = zs.length := by omega
            have d1 : decide (zs.length < zs.length) = false := by simp
            rw [List.take_length]
            go_wp2
            exact bodyPost_ret (by simp [results, Tryz.results27, go_sem]) rfl ⟨rfl, hT⟩
theorem sum_bound (s : ByteArray) (rows : List GrantD) (j : Nat) : 0 ≤ ((rows.take j).map fun g => cnt g.a [s]).sum ∧ ((rows.take j).map fun g => cnt g.a [s]).sum ≤ j := by
  rw [sum_count (fun g : GrantD => cnt g.a [s]) (fun g => by show cnt g.a [s] = 0 ∨ cnt g.a [s] = 1; rw [cnt_one]; split <;> simp)]
  have h1 := List.length_filter_le (fun g : GrantD => decide (cnt g.a [s] = 1)) (rows.take j)
  rw [List.length_take] at h1
  omega
theorem cnt01 (a : ArmsD) (s : ByteArray) : 0 ≤ cnt a [s] ∧ cnt a [s] ≤ 1 := by
  rw [cnt_one]; split <;> simp
set_option maxHeartbeats 8000000 in
theorem specRare_any (A : Option Addr) (c : Nat) (rows : List GrantD) (A2 : Option Addr) (c2 : Nat) (zs : List ByteArray) (w : World) (hr : RdR 18 w A (gcs rows)) (hl : rows.length ≤ 1048576) (hs : ∀ g ∈ rows, g.s.size ≤ maxLen) (h2 : RdS w A2 zs) (hx : zs.length ≤ 1048576) (hm : ∀ s ∈ zs, s.size ≤ maxLen) (hc2 : zs.length ≤ c2) (hcm2 : c2 ≤ maxLen) :
    Calls Tryz.prog 26 #[.agg #[.slice A rows.length c], .slice A2 zs.length c2] w (RareOk w (raR rows zs (rows.length + 1)) (raOk rows zs)) := by
  have KV := Lib.hid (fun (w' : World) (hb : Below w.heap.size w w') => l16Good_any A c rows w' (hr.below hb) hl hs)
  have KL := Lib.hid (fun (w' : World) (hb : Below w.heap.size w w') => l17List_any A2 c2 zs w' (h2.below hb) hx hm)
  have HH := Lib.hid hr
  have H2 := Lib.hid h2
  have hR := heap_hit w (.cells #[.slice A rows.length c] 33) _ rfl
  have hT : Below w.heap.size w (w.alloc (.cells #[.slice A rows.length c] 33)) := Below_al (Below.refl _ _) _
  have cR := cell_of hR 0
  clear hs hm hr h2
  unfold maxLen at hcm2
  cases q : regOk rows
  · have hk : raOk rows zs = false := by unfold raOk; rw [q]; rfl
    have hf : raR rows zs (rows.length + 1) = (⟨#[]⟩, 0) := by unfold raR; rw [hk]; rfl
    rw [hk, hf]
    rw [q] at KV
    clear q KL hk hf
    go_enter Tryz.func26, Tryz.ntmps26
    go_wp2_with fail
    refine (KV.out _ hT).mono ?_
    rintro e w1 ⟨rfl, hb1⟩
    replace hT := Below_then hT hb1
    replace hR := heap_keepB hR hb1
    clear hb1 cR
    clear hR
    go_wp2
    exact bodyPost_ret (by simp [results, Tryz.results26, go_sem]) rfl ⟨rfl, hT⟩
  · rw [q] at KV
    cases q2 : lsOk zs
    · have hk : raOk rows zs = false := by unfold raOk; rw [q2]; simp
      have hf : raR rows zs (rows.length + 1) = (⟨#[]⟩, 0) := by unfold raR; rw [hk]; rfl
      rw [hk, hf]
      rw [q2] at KL
      clear q q2 hk hf
      go_enter Tryz.func26, Tryz.ntmps26
      go_wp2_with fail
      refine (KV.out _ hT).mono ?_
      rintro e w1 ⟨rfl, hb1⟩
      replace hT := Below_then hT hb1
      replace hR := heap_keepB hR hb1
      clear hb1 cR
      go_wp2_with fail
      refine (KL.out _ hT).mono ?_
      rintro e w2 ⟨rfl, hb2⟩
      replace hT := Below_then hT hb2
      replace hR := heap_keepB hR hb2
      clear hb2
      clear hR
      go_wp2
      exact bodyPost_ret (by simp [results, Tryz.results26, go_sem]) rfl ⟨rfl, hT⟩
    · rw [q2] at KL
      cases zs with
      | nil =>
        have hk : raOk rows [] = false := by unfold raOk; simp
        have hf : raR rows [] (rows.length + 1) = (⟨#[]⟩, 0) := by unfold raR; rw [hk]; rfl
        rw [hk, hf]
        clear q q2 hk hf
        go_enter Tryz.func26, Tryz.ntmps26
        go_wp2_with fail
        refine (KV.out _ hT).mono ?_
        rintro e w1 ⟨rfl, hb1⟩
        replace hT := Below_then hT hb1
        replace hR := heap_keepB hR hb1
        clear hb1 cR
        go_wp2_with fail
        refine (KL.out _ hT).mono ?_
        rintro e w2 ⟨rfl, hb2⟩
        replace hT := Below_then hT hb2
        replace hR := heap_keepB hR hb2
        clear hb2
        clear hR
        go_wp2
        exact bodyPost_ret (by simp [results, Tryz.results26, go_sem]) rfl ⟨rfl, hT⟩
      | cons z0 zt =>
        obtain ⟨zs, hzs⟩ : ∃ zs, zs = z0 :: zt := ⟨_, rfl⟩
        rw [← hzs] at KL H2 hx hc2 ⊢
        have hpos : 0 < zs.length := by rw [hzs]; simp
        have hk : raOk rows zs = true := by unfold raOk; rw [q, hzs, q2]; rfl
        have hf : raR rows zs (rows.length + 1) = bestL (cntR rows) (⟨#[]⟩, rows.length + 1) zs := by unfold raR; rw [hk]; rfl
        rw [hk, hf]
        have HQ := Lib.hid q
        have hz0 : ((zs.length : Int) == 0) = false := by rw [beq_eq_false_iff_ne]; omega
        clear q q2 hk hf hzs
        go_enter Tryz.func26, Tryz.ntmps26
        go_wp2_with fail
        refine (KV.out _ hT).mono ?_
        rintro e w1 ⟨rfl, hb1⟩
        replace hT := Below_then hT hb1
        replace hR := heap_keepB hR hb1
        clear hb1 cR
        go_wp2_with fail
        refine (KL.out _ hT).mono ?_
        rintro e w2 ⟨rfl, hb2⟩
        replace hT := Below_then hT hb2
        replace hR := heap_keepB hR hb2
        clear hb2
        have cR := cell_of hR 0
        go_wp2_with fail
        refine wp_region_noPanic ?_
        refine wp_region_held_drew (S := (fun w' => w'.cell? ⟨w.heap.size, 0, none⟩ = some (.slice A rows.length c : Value) ∧ Below w2.heap.size w2 w')) (by kernel_rfl) ⟨cR, (Below.refl _ _).drew⟩ (fun hHeld => ?_)
        refine wpAnyH_take (i := 0) (oi := _) (v := ?_) rfl (by kernel_rfl) (by kernel_rfl) (by kernel_rfl) (fun _ _ _ h => h) (Or.inl ⟨by rfl, ?_⟩) (by assumption) ?_
        rotate_left
        · intro w hSw; clear hSw; first | (go_simp; done) | (go_simp; with_reducible rfl)
        simp only [Act.put, List.getElem_toArray, List.getElem_cons_succ, List.getElem_cons_zero, List.setIfInBounds_toArray, List.set_cons_zero, List.set_cons_succ]
        refine wpAnyH_take (i := 1) (oi := _) (v := ?_) rfl (by kernel_rfl) (by kernel_rfl) (by kernel_rfl) (fun _ _ _ h => h) (Or.inl ⟨by rfl, ?_⟩) (by assumption) ?_
        rotate_left
        · intro w hSw; (try dsimp only at hSw); first | (go_simp; done) | (go_simp; with_reducible rfl)
        simp only [Act.put, List.getElem_toArray, List.getElem_cons_succ, List.getElem_cons_zero, List.setIfInBounds_toArray, List.set_cons_zero, List.set_cons_succ]
        refine wpAnyH_take (i := 2) (oi := _) (v := ?_) rfl (by kernel_rfl) (by kernel_rfl) (by kernel_rfl) (fun _ _ _ h => h) (Or.inl ⟨by rfl, ?_⟩) (by assumption) ?_
        rotate_left
        · intro w hSw; clear hSw; first | (go_simp; done) | (go_simp; with_reducible rfl)
        simp only [Act.put, List.getElem_toArray, List.getElem_cons_succ, List.getElem_cons_zero, List.setIfInBounds_toArray, List.set_cons_zero, List.set_cons_succ]
        refine wpAnyH_take (i := 3) (oi := _) (v := ?_) rfl (by kernel_rfl) (by kernel_rfl) (by kernel_rfl) (fun _ _ _ h => h) (Or.inl ⟨by rfl, ?_⟩) (by assumption) ?_
        rotate_left
        · intro w hSw; clear hSw; first | (go_simp; done) | (go_simp; with_reducible rfl)
        simp only [Act.put, List.getElem_toArray, List.getElem_cons_succ, List.getElem_cons_zero, List.setIfInBounds_toArray, List.set_cons_zero, List.set_cons_succ]
        refine wpAnyH_take (i := 4) (oi := _) (v := ?_) rfl (by kernel_rfl) (by kernel_rfl) (by kernel_rfl) (fun _ _ _ h => h) (Or.inl ⟨by rfl, ?_⟩) (by assumption) ?_
        rotate_left
        · intro w hSw; clear hSw; first | (go_simp; done) | (go_simp; with_reducible rfl)
        simp only [Act.put, List.getElem_toArray, List.getElem_cons_succ, List.getElem_cons_zero, List.setIfInBounds_toArray, List.set_cons_zero, List.set_cons_succ]
        refine wpAnyH_take (i := 5) (oi := _) (v := ?_) rfl (by kernel_rfl) (by kernel_rfl) (by kernel_rfl) (fun _ _ _ h => h) (Or.inl ⟨by rfl, ?_⟩) (by assumption) ?_
        rotate_left
        · intro w hSw; clear hSw; first | (go_simp; done) | (go_simp; with_reducible rfl)
        simp only [Act.put, List.getElem_toArray, List.getElem_cons_succ, List.getElem_cons_zero, List.setIfInBounds_toArray, List.set_cons_zero, List.set_cons_succ]
        refine wpAnyH_done (by kernel_rfl) ?_ _
        refine NoPanic.normal ?_
        replace hT := Below_then hT hHeld.2
        replace hR := heap_keepB hR hHeld.2
        clear hHeld cR
        generalize w2.drew = w3 at hT hR
        have hwrl : IntKind.i64.wrap ((rows.length : Int) + 1) = (rows.length : Int) + 1 := by rw [IntKind.wrap_i64]; omega
        go_wp2_with fail
        go_loopw [7, 8, 9] (fun b l i wr => ∃ k : Nat, k ≤ zs.length ∧ i = .int .i64 k ∧ b = .string (bestL (cntR rows) (⟨#[]⟩, rows.length + 1) (zs.take k)).1 ∧ l = .int .i64 (bestL (cntR rows) (⟨#[]⟩, rows.length + 1) (zs.take k)).2 ∧ wr.heap[w.heap.size]? = some (.cells #[.slice A rows.length c] 33 (0, 0)) ∧ Below w.heap.size w wr) (fun _ _ i _ => zs.length - (intOf i).toNat)
        case atStart => exact ⟨0, Nat.zero_le _, rfl, rfl, by rw [hwrl]; rfl, hR, hT⟩
        case round =>
          clear hR hT hwrl
          obtain ⟨k, hk, rfl, rfl, rfl, hR, hT⟩ := hrel
          by_cases hlt : k < zs.length
          · have hst := bestL_take (cntR rows) (⟨#[]⟩, rows.length + 1) hlt
            obtain ⟨x, hxk⟩ : ∃ x, x = zs[k] := ⟨_, rfl⟩
            rw [← hxk] at hst
            obtain ⟨st, hstk⟩ : ∃ st, st = bestL (cntR rows) (⟨#[]⟩, rows.length + 1) (zs.take k) := ⟨_, rfl⟩
            rw [← hstk] at hst ⊢
            have HST := Lib.hid hst
            obtain ⟨sb, sl⟩ := st
            simp only
            have HX := Lib.hid hxk
            obtain ⟨b, off, rfl, c1, -⟩ := (H2.out.below hT).at_ hlt
            have i1 : (k : Int) < (zs.length : Int) := by omega
            have d1 : decide (k < zs.length) = true := by simpa using hlt
            have hsum := cntR_sum rows x
            have HSUM := Lib.hid hsum
            clear hst hstk hxk hsum
            go_wp2_with fail
            go_loopw [10, 11] (fun n i wq => ∃ j : Nat, j ≤ rows.length ∧ i = .int .i64 j ∧ n = .int .i64 ((rows.take j).map fun g => cnt g.a [x]).sum ∧ wq.heap[w.heap.size]? = some (.cells #[.slice A rows.length c] 33 (0, 0)) ∧ Below w.heap.size w wq) (fun _ i _ => rows.length - (intOf i).toNat)
            case atStart => exact ⟨0, Nat.zero_le _, rfl, rfl, hR, hT⟩
            case round =>
              clear hR hT c1
              obtain ⟨j, hj, rfl, rfl, hR, hT⟩ := hrel
              have cR := cell_of hR 0
              have hsb := sum_bound x rows j
              by_cases hlj : j < rows.length
              · obtain ⟨g, hg⟩ := grant_at hlj
                have hss := sum_take (fun g : GrantD => cnt g.a [x]) hg
                obtain ⟨gb, go, rfl, hgr, -⟩ := (HH.out.below hT).grants hg
                have hga := (gc_cells hgr).2.2.2
                have KC : ∀ (w' : World), Below w.heap.size w w' → Calls Tryz.prog 36 #[.agg (ac g.a).toArray, .slice (some ⟨b, off + k, none⟩) 1 (c2 - k)] w' fun e w'' => e = .returned (.int .i64 (cnt g.a [x])) ∧ Below w'.heap.size w' w'' := fun w' hb =>
                  l17Count_any g.a (regOk_arms HQ.out hg) _ _ [x] w' (.inr ⟨b, off + k, rfl, fun i hi => by
                    obtain rfl : i = 0 := by simpa [sv] using hi
                    obtain ⟨b', off', e, c2', -⟩ := (H2.out.below hb).at_ hlt
                    injection e with e
                    injection e with e1 e2
                    subst e1 e2
                    rw [← HX.out] at c2'
                    simpa [sv] using c2'⟩) (by simp)
                have KC := Lib.hid KC
                have hc01 := cnt01 g.a x
                obtain ⟨y, hy⟩ : ∃ y, y = cnt g.a [x] := ⟨_, rfl⟩
                obtain ⟨su, hsu⟩ : ∃ su, su = ((rows.take j).map fun g => cnt g.a [x]).sum := ⟨_, rfl⟩
                rw [← hy] at KC hc01
                simp only [← hy] at hss
                rw [← hsu] at hss hsb ⊢
                have HSS := Lib.hid hss
                have i2 : (j : Int) < (rows.length : Int) := by omega
                have d2 : decide (j < rows.length) = true := by simpa using hlj
                clear hss hsu hy hg hgr
                have sw1 : IntKind.i64.wrap ((k : Int) + 1) = (k : Int) + 1 := by rw [IntKind.wrap_i64]; omega
                have sw2 : (0 : Int) ≤ (k : Int) + 1 ∧ (k : Int) + 1 ≤ (c2 : Int) := by omega
                have sw3 : ((k : Int) + 1).toNat = k + 1 := by omega
                have sw4 : ¬ c2 = k := by omega
                have sw5 : k + 1 - k = 1 := by omega
                have sw6 : IntKind.i64.wrap (su + y) = su + y := by rw [IntKind.wrap_i64]; omega
                go_wp2_with fail
                refine wp_region_noPanic ?_
                refine wp_region_held_drew (S := (fun w' => w'.cell? ⟨w.heap.size, 0, none⟩ = some (.slice (some ⟨gb, go, none⟩) rows.length c : Value) ∧ w'.rangeAt gb (go + j * 18 + 3) (ac g.a) ∧ Below wr.heap.size wr w')) (by kernel_rfl) ⟨cR, hga, (Below.refl _ _).drew⟩ (fun hHeld => ?_)
                refine wpAnyH_take (i := 0) (oi := _) (v := ?_) rfl (by kernel_rfl) (by kernel_rfl) (by kernel_rfl) (fun _ _ _ h => h) (Or.inl ⟨by rfl, ?_⟩) (by assumption) ?_
                rotate_left
                · intro w hSw; clear hSw; first | (go_simp; done) | (go_simp; with_reducible rfl)
                simp only [Act.put, List.getElem_toArray, List.getElem_cons_succ, List.getElem_cons_zero, List.setIfInBounds_toArray, List.set_cons_zero, List.set_cons_succ]
                refine wpAnyH_take (i := 1) (oi := _) (v := ?_) rfl (by kernel_rfl) (by kernel_rfl) (by kernel_rfl) (fun _ _ _ h => h) (Or.inl ⟨by rfl, ?_⟩) (by assumption) ?_
                rotate_left
                · intro w hSw; clear hSw; first | (go_simp; done) | (go_simp; with_reducible rfl)
                simp only [Act.put, List.getElem_toArray, List.getElem_cons_succ, List.getElem_cons_zero, List.setIfInBounds_toArray, List.set_cons_zero, List.set_cons_succ]
                refine wpAnyH_take (i := 2) (oi := _) (v := ?_) rfl (by kernel_rfl) (by kernel_rfl) (by kernel_rfl) (fun _ _ _ h => h) (Or.inl ⟨by rfl, ?_⟩) (by assumption) ?_
                rotate_left
                · intro w hSw; (try dsimp only at hSw); first | (go_simp; done) | (go_simp; with_reducible rfl)
                simp only [Act.put, List.getElem_toArray, List.getElem_cons_succ, List.getElem_cons_zero, List.setIfInBounds_toArray, List.set_cons_zero, List.set_cons_succ]
                refine wpAnyH_take (i := 3) (oi := _) (v := ?_) rfl (by kernel_rfl) (by kernel_rfl) (by kernel_rfl) (fun _ _ _ h => h) (Or.inl ⟨by rfl, ?_⟩) (by assumption) ?_
                rotate_left
                · intro w hSw; clear hSw; first | (go_simp; done) | (go_simp; with_reducible rfl)
                simp only [Act.put, List.getElem_toArray, List.getElem_cons_succ, List.getElem_cons_zero, List.setIfInBounds_toArray, List.set_cons_zero, List.set_cons_succ]
                refine wpAnyH_take (i := 4) (oi := _) (v := ?_) rfl (by kernel_rfl) (by kernel_rfl) (by kernel_rfl) (fun _ _ _ h => h) (Or.inl ⟨by rfl, ?_⟩) (by assumption) ?_
                rotate_left
                · intro w hSw; clear hSw; first | (go_simp; done) | (go_simp; with_reducible rfl)
                simp only [Act.put, List.getElem_toArray, List.getElem_cons_succ, List.getElem_cons_zero, List.setIfInBounds_toArray, List.set_cons_zero, List.set_cons_succ]
                refine wpAnyH_take (i := 5) (oi := _) (v := ?_) rfl (by kernel_rfl) (by kernel_rfl) (by kernel_rfl) (fun _ _ _ h => h) (Or.inl ⟨by rfl, ?_⟩) (by assumption) ?_
                rotate_left
                · intro w hSw; clear hSw; first | (go_simp; done) | (go_simp; with_reducible rfl)
                simp only [Act.put, List.getElem_toArray, List.getElem_cons_succ, List.getElem_cons_zero, List.setIfInBounds_toArray, List.set_cons_zero, List.set_cons_succ]
                refine wpAnyH_take (i := 6) (oi := _) (v := _) rfl ?g1_1 ?g2_1 ?g3_1 (fun _ _ _ h => h) (yieldsIf_load_mid ?g4_1 _ _ rfl gb ?oo_1 ?g5_1 (ac g.a) _ ?g6_1 Tryz.underlying52 rfl (info_ac g.a)) ?g7_1 ?_
                case g5_1 => rfl
                case g1_1 => kernel_rfl
                case g2_1 => kernel_rfl
                case g3_1 => kernel_rfl
                case g6_1 => exact (fun _ h => h.2.1)
                case g4_1 => kernel_rfl
                case g7_1 => assumption
                simp only [Act.put, List.getElem_toArray, List.getElem_cons_succ, List.getElem_cons_zero, List.setIfInBounds_toArray, List.set_cons_zero, List.set_cons_succ]
                refine wpAnyH_take (i := 7) (oi := _) (v := ?_) rfl (by kernel_rfl) (by kernel_rfl) (by kernel_rfl) (fun _ _ _ h => h) (Or.inl ⟨by rfl, ?_⟩) (by assumption) ?_
                rotate_left
                · intro w hSw; clear hSw; first | (go_simp; done) | (go_simp; with_reducible rfl)
                simp only [Act.put, List.getElem_toArray, List.getElem_cons_succ, List.getElem_cons_zero, List.setIfInBounds_toArray, List.set_cons_zero, List.set_cons_succ]
                refine wpAnyH_take (i := 8) (oi := _) (v := ?_) rfl (by kernel_rfl) (by kernel_rfl) (by kernel_rfl) (fun _ _ _ h => h) (Or.inl ⟨by rfl, ?_⟩) (by assumption) ?_
                rotate_left
                · intro w hSw; clear hSw; first | (go_simp; done) | (go_simp; with_reducible rfl)
                simp only [Act.put, List.getElem_toArray, List.getElem_cons_succ, List.getElem_cons_zero, List.setIfInBounds_toArray, List.set_cons_zero, List.set_cons_succ]
                refine wpAnyH_take (i := 9) (oi := _) (v := ?_) rfl (by kernel_rfl) (by kernel_rfl) (by kernel_rfl) (fun _ _ _ h => h) (Or.inl ⟨by rfl, ?_⟩) (by assumption) ?_
                rotate_left
                · intro w hSw; clear hSw; first | (go_simp; done) | (go_simp; with_reducible rfl)
                simp only [Act.put, List.getElem_toArray, List.getElem_cons_succ, List.getElem_cons_zero, List.setIfInBounds_toArray, List.set_cons_zero, List.set_cons_succ]
                refine wpAnyH_take (i := 10) (oi := _) (v := ?_) rfl (by kernel_rfl) (by kernel_rfl) (by kernel_rfl) (fun _ _ _ h => h) (Or.inl ⟨by rfl, ?_⟩) (by assumption) ?_
                rotate_left
                · intro w hSw; clear hSw; first | (go_simp; done) | (go_simp; with_reducible rfl)
                simp only [Act.put, List.getElem_toArray, List.getElem_cons_succ, List.getElem_cons_zero, List.setIfInBounds_toArray, List.set_cons_zero, List.set_cons_succ]
                refine wpAnyH_take (i := 11) (oi := _) (v := ?_) rfl (by kernel_rfl) (by kernel_rfl) (by kernel_rfl) (fun _ _ _ h => h) (Or.inl ⟨by rfl, ?_⟩) (by assumption) ?_
                rotate_left
                · intro w hSw; clear hSw; first | (go_simp; done) | (go_simp; with_reducible rfl)
                simp only [Act.put, List.getElem_toArray, List.getElem_cons_succ, List.getElem_cons_zero, List.setIfInBounds_toArray, List.set_cons_zero, List.set_cons_succ]
                refine wpAnyH_ready (rs := [12]) (by kernel_rfl) (by simp) ?_
                refine AllReadyH.cons (o := _) rfl (fun K hK => ?_) AllReadyH.nil
                go_simp
                refine (KC.out _ (Below_then hT hHeld.2.2)).mono ?_
                rintro e x2 ⟨rfl, hx2⟩
                go_wp2_with fail
                refine hK.out _ _ ⟨keep_cell hHeld.1 hx2, rangeAt_below hHeld.2.1 hx2, Below_then hHeld.2.2 hx2⟩ (fun hHeld => ?_)
                clear hK K
                try simp only [Act.put, List.getElem_toArray, List.getElem_cons_succ, List.getElem_cons_zero, List.setIfInBounds_toArray, List.set_cons_zero, List.set_cons_succ]
                refine wpAnyH_take (i := 13) (oi := _) (v := ?_) rfl (by kernel_rfl) (by kernel_rfl) (by kernel_rfl) (fun _ _ _ h => h) (Or.inl ⟨by rfl, ?_⟩) (by assumption) ?_
                rotate_left
                · intro w hSw; clear hSw; first | (go_simp; done) | (go_simp; with_reducible rfl)
                simp only [Act.put, List.getElem_toArray, List.getElem_cons_succ, List.getElem_cons_zero, List.setIfInBounds_toArray, List.set_cons_zero, List.set_cons_succ]
                refine wpAnyH_take (i := 14) (oi := _) (v := ?_) rfl (by kernel_rfl) (by kernel_rfl) (by kernel_rfl) (fun _ _ _ h => h) (Or.inl ⟨by rfl, ?_⟩) (by assumption) ?_
                rotate_left
                · intro w hSw; clear hSw; first | (go_simp; done) | (go_simp; with_reducible rfl)
                simp only [Act.put, List.getElem_toArray, List.getElem_cons_succ, List.getElem_cons_zero, List.setIfInBounds_toArray, List.set_cons_zero, List.set_cons_succ]
                refine wpAnyH_done (by kernel_rfl) ?_ _
                refine NoPanic.normal ?_
                replace hT := Below_then hT hHeld.2.2
                replace hR := heap_keepB hR hHeld.2.2
                clear hHeld cR hga sw1 sw2 sw3 sw4 sw5 sw6
                go_wp2
                go_roundw
                case rel => exact ⟨j + 1, by omega, by go_num, by rw [HSS.out], hR, hT⟩
                case measure => simp [intOf]; omega
              · obtain rfl : j = rows.length := by omega
                have d2 : decide (rows.length < rows.length) = false := by simp
                obtain ⟨b', off', e, c1, -⟩ := (H2.out.below hT).at_ hlt
                injection e with e
                injection e with e1 e2
                subst e1 e2
                rw [← HX.out] at c1
                rw [List.take_length] at hsb ⊢
                rw [HSUM.out] at hsb ⊢
                obtain ⟨m, hm⟩ : ∃ m, m = cntR rows x := ⟨_, rfl⟩
                have HM := Lib.hid hm
                rw [← hm] at hsb ⊢
                clear hm
                by_cases hq : m < sl
                · go_wp2
                  go_roundw
                  case rel => exact ⟨k + 1, by omega, by go_num, by rw [HST.out, ← HM.out, if_pos hq], by rw [HST.out, ← HM.out, if_pos hq], hR, hT⟩
                  case measure => simp [intOf]; omega
                · go_wp2
                  go_roundw
                  case rel => exact ⟨k + 1, by omega, by go_num, by rw [HST.out, ← HM.out, if_neg (by omega)], by rw [HST.out, ← HM.out, if_neg (by omega)], hR, hT⟩
                  case measure => simp [intOf]; omega
          · obtain rfl : k = zs.length := by omega
            have d1 : decide (zs.length < zs.length) = false := by simp
            rw [List.take_length]
            go_wp2
            exact bodyPost_ret (by simp [results, Tryz.results26, go_sem]) rfl ⟨rfl, hT⟩
end Go.Proofs.YtjkfmnmgelmbfaaGreatDoor
/-! ### Strs3 -/
namespace Go.Proofs.YtjkfmnmgelmbfaaGreatDoor
open Go.ChangeShapes Go.WideShapes Go.ChangeAt Go.RowKit Go.Deep
set_option linter.unusedVariables false
set_option linter.unusedSimpArgs false
set_option maxHeartbeats 1000000 in
theorem toStringS_any (A : Option Addr) (c : Nat) (zs : List ByteArray) (w : World) (h : RdS w A zs) (hx : zs.length ≤ 1048576) :
    Calls Tryz.prog 12 #[.slice A zs.length c] w fun e w' => ∃ g, e = .returned (.slice (some ⟨g, 0, none⟩) zs.length zs.length) ∧ OwnS w' w.heap.size 9 (.slice (some ⟨g, 0, none⟩) zs.length zs.length) zs ∧ Below w.heap.size w w' := by
  obtain ⟨i0, hi, hz0, hz1, hz2⟩ := info_parts info_str
  go_enter Tryz.func12, Tryz.ntmps12
  go_wp2_with (first | (at_make; refine wpList_make_full _ rfl _ _ 25 rfl w.heap.size 9 i0 _ 1 Tryz.underlying25 hi hz0 hz1 .i64 .i64 _ _ zs.length rfl rfl rfl rfl ?c1 ?c2 (Nat.le_refl _) ?_) | fail)
  case c1 => rw [hz2]; omega
  case c2 => unfold maxLen; omega
  intro w1 hown hgr
  rw [made_strs, ← copyS_zero] at hown
  have hown' : OwnS w1 w.heap.size 9 (.slice (some ⟨w.heap.size, 0, none⟩) zs.length zs.length) (copyS zs 0) := by
    unfold OwnS
    rw [copyS_len zs 0 (by omega)]
    exact hown
  have hb1 := below_of_none hgr
  clear hown hgr
  go_wp2_with fail
  go_loopw [4] (fun i wr => ∃ k : Nat, k ≤ zs.length ∧ i = .int .i64 k ∧ OwnS wr w.heap.size 9 (.slice (some ⟨w.heap.size, 0, none⟩) zs.length zs.length) (copyS zs k) ∧ Below w.heap.size w wr) (fun i _ => zs.length - (intOf i).toNat)
  case atStart => exact ⟨0, Nat.zero_le _, rfl, hown', hb1⟩
  case round =>
    obtain ⟨k, hk, rfl, hown, hb⟩ := hrel
    have hlen := copyS_len zs k hk
    by_cases hlt : k < zs.length
    · obtain ⟨b, off, rfl, hc1, hbl⟩ := (h.below hb).at_ hlt
      rw [← hlen] at hown
      have hc := hown.cellAt k (by omega)
      have hf := hown.frozenAt k
      obtain ⟨x, ex⟩ : ∃ x, x = (copyS zs k)[k]'(by omega) := ⟨_, rfl⟩
      rw [← ex] at hc
      have hset := hown.set k (zs[k])
      rw [copyS_set zs k hlt, hlen] at hset
      obtain ⟨y, ey⟩ : ∃ y, y = zs[k] := ⟨_, rfl⟩
      rw [← ey] at hset hc1
      have i1 : (k : Int) < (zs.length : Int) := by omega
      have d1 : decide (k < zs.length) = true := by simpa using hlt
      clear ex ey hown hlen
      go_wp2
      go_roundw
      case rel => exact ⟨k + 1, by omega, by go_num, hset, hb.setCell (Nat.le_refl _) _⟩
      case measure => simp [intOf]; omega
    · have hk' : k = zs.length := by omega
      have d1 : decide (k < zs.length) = false := by simpa using hlt
      subst hk'
      rw [copyS_all] at hown
      go_wp2
      go_ret
      exact ⟨_, rfl, hown, hb⟩
/-- What is left of a size. -/
def szS (zs : List ByteArray) (left : Int) : Int := if (zs.length : Int) + lens zs ≤ left then left - zs.length - lens zs else -1
set_option maxHeartbeats 1000000 in
theorem szStringS_any (A : Option Addr) (c : Nat) (zs : List ByteArray) (left : Int) (w : World) (h : RdS w A zs) (hl : 0 ≤ left ∧ left ≤ 1099511627776) (hm : zs.length ≤ maxLen) (hs : ∀ s ∈ zs, s.size ≤ maxLen) :
    Calls Tryz.prog 9 #[.slice A zs.length c, .int .i64 left] w fun e w' => e = .returned (.int .i64 (szS zs left)) ∧ Below w.heap.size w w' := by
  unfold maxLen at hm
  by_cases hn : (zs.length : Int) ≤ left
  · go_enter Tryz.func9, Tryz.ntmps9
    go_wp2_with fail
    go_loopw [1, 5] (fun l i wr => ∃ k : Nat, k ≤ zs.length ∧ i = .int .i64 k ∧ (zs.length : Int) + lens (zs.take k) ≤ left ∧ l = .int .i64 (left - zs.length - lens (zs.take k)) ∧ Below w.heap.size w wr) (fun _ i _ => zs.length - (intOf i).toNat)
    case atStart => exact ⟨0, Nat.zero_le _, rfl, by simpa [lens] using hn, by simp [lens], Below.refl _ _⟩
    case round =>
      obtain ⟨k, hk, rfl, hle, rfl, hb⟩ := hrel
      by_cases hlt : k < zs.length
      · obtain ⟨b, off, rfl, hc1, hbl⟩ := (h.below hb).at_ hlt
        have hlt2 := lens_take hlt
        have hmem := hs _ (List.getElem_mem hlt)
        have hle2 := lens_le zs (k + 1)
        obtain ⟨y, ey⟩ : ∃ y, y = zs[k] := ⟨_, rfl⟩
        rw [← ey] at hc1 hlt2 hmem
        obtain ⟨t, ht⟩ : ∃ t : Nat, t = lens (zs.take k) := ⟨_, rfl⟩
        rw [← ht] at hle hlt2 ⊢
        unfold maxLen at hmem
        have HT := Lib.hid hlt2
        have HL := Lib.hid hle2
        clear ey ht hlt2 hle2
        by_cases hgo : (zs.length : Int) + t + y.size ≤ left
        · have g1 : ¬ (left - (zs.length : Int) - (t : Int) - (y.size : Int) < 0) := by omega
          go_wp2
          go_roundw
          case rel =>
            have h2 := HT.out
            exact ⟨k + 1, by omega, by go_num, by rw [h2]; push_cast; omega, by rw [h2]; congr 1; push_cast; omega, hb⟩
          case measure => simp [intOf]; omega
        · have g1 : left - (zs.length : Int) - (t : Int) - (y.size : Int) < 0 := by omega
          go_wp2
          go_ret
          refine ⟨retI ?_, hb⟩
          have h2 := HT.out
          have h3 := HL.out
          unfold szS
          rw [if_neg (by omega)]
      · obtain rfl : k = zs.length := by omega
        rw [List.take_length] at hle ⊢
        have d1 : decide (zs.length < zs.length) = false := by simp
        go_wp2
        go_ret
        refine ⟨retI ?_, hb⟩
        unfold szS
        rw [if_pos hle]
  · go_enter Tryz.func9, Tryz.ntmps9
    have g1 : left - (zs.length : Int) < 0 := by omega
    go_wp2
    go_ret
    refine ⟨retI ?_, Below.refl _ _⟩
    unfold szS
    rw [if_neg (by omega)]
section
variable {H : Type} {enc : TypeId × Value → H} {w : World} {base : Nat} {spare : Nat → Bool} {held : Bool} {r : Reach} {b0 : Nat} {v : Value} {d : DataW H} {p : List MemPlace}
theorem cells_str1 : Tryz.prog.cellsOf 9 = 1 := by kernel_rfl
set_option maxRecDepth 20000 in
theorem openStrings (hv : Value.okWide Tryz.prog w r b0 25 v) (h : DataW.Trod enc Tryz.prog w base spare held 25 v d p) :
    ∃ (A : Option Addr) (c : Nat) (zs : List ByteArray), v = .slice A zs.length c ∧ RdS w A zs ∧ zs.length ≤ maxLen ∧ ∀ s ∈ zs, s.size ≤ maxLen := by
  obtain ⟨fuel, hf⟩ := h
  obtain ⟨A0, n0, c0, rfl⟩ := okWide_slice Tryz.underlying25 hv
  rcases open_strs Tryz.underlying25 Tryz.underlying9 cells_str1 hf with ⟨hcs, -⟩ | ⟨a, len, cap, m, Sx, hcs, -, hl, hm, hmm, -, hx⟩
  · simp [Value.cells] at hcs
    obtain ⟨rfl, rfl, rfl⟩ := hcs
    exact ⟨none, 0, [], rfl, RdS.nil _ _, by simp [maxLen], by simp⟩
  · simp [Value.cells] at hcs
    obtain ⟨rfl, rfl, rfl⟩ := hcs
    have hge : n0 ≤ m := by rw [hmm]; split <;> omega
    refine ⟨some a, c0, (List.range n0).map Sx, by simp, ?_, by simp; omega, fun s hs => ?_⟩
    · by_cases h0 : n0 = 0
      · subst h0
        exact .inl rfl
      · have hsp : a.spot = none := by
          have h1 := (hx 0 (by omega)).1
          rw [Addr.add, if_pos rfl] at h1
          simp only [World.cell?] at h1
          split at h1
          · split at h1
            · cases h1
            · next hh => simpa using hh
          · cases h1
        obtain ⟨b, off, sp⟩ := a
        simp at hsp
        subst hsp
        refine .inr ⟨b, off, rfl, fun i hi => ?_⟩
        have hi' : i < n0 := by simpa [sv] using hi
        have h1 := (hx i (by omega)).1
        have e1 : (Addr.add ⟨b, off, none⟩ i : Addr) = ⟨b, off + i, none⟩ := by
          unfold Addr.add
          split
          · next h => subst h; rfl
          · rfl
        rw [e1] at h1
        rw [h1, sv_get]
        simp
    · obtain ⟨i, hi, rfl⟩ := List.mem_map.1 hs
      exact (hx i (by have := List.mem_range.1 hi; omega)).2
end
end Go.Proofs.YtjkfmnmgelmbfaaGreatDoor
namespace Go.Proofs.YtjkfmnmgelmbfaaGreatDoor.fnExactRarestFeature
open Go.ChangeShapes Go.WideShapes Go.ChangeAt Go.RowKit
set_option linter.unusedVariables false

theorem eqSt {A A' : Option Addr} {c c' B B' : Nat} (xs : List ByteArray) (w : World) (h1 : OwnS w B 9 (.slice A xs.length c) xs) (h2 : OwnS w B' 9 (.slice A' xs.length c') xs) (hx : xs.length ≤ 1048576) :
    Calls Tryz.prog 16 #[.slice A xs.length c, .slice A' xs.length c'] w fun e w' => e = .returned (.bool true) ∧ Below w.heap.size w w' := by
  obtain ⟨A1, c1, e1, r1⟩ := h1.form
  obtain ⟨A2, c2, e2, r2⟩ := h2.form
  injection e1 with e1 _ e1'
  injection e2 with e2 _ e2'
  subst e1 e1' e2 e2'
  exact (eqStringS_any _ _ _ _ xs xs w r1 r2 (by omega) (by omega)).mono fun _ _ ⟨he, hw⟩ => ⟨by rw [he]; simp, hw⟩
theorem rdOf {A : Option Addr} {n c B : Nat} {T : TypeId} {zs : List ByteArray} {w : World} (h : OwnS w B T (.slice A n c) zs) : RdS w A zs := by
  obtain ⟨A', c', e, hr⟩ := h.form
  injection e with e
  subst e
  exact hr
theorem own_apart {w w' : World} {B B' s s' n n' : Nat} {T T' : TypeId} {v v' : Value} {xs xs' : List Value} (h : w.ownsRow B T s v n xs) (h' : w'.ownsRow B' T' s' v' n' xs') (hs : w.heap.size ≤ B') : v.ownBlock = none ∨ v.ownBlock ≠ v'.ownBlock := by
  cases e : v.ownBlock with
  | none => exact .inl rfl
  | some k => exact .inr fun e2 => by have h1 := World.ownsRow.lt h k e; have h2 := World.ownsRow.lt h' k e2.symm; omega
theorem apart_symm {a b : Option Nat} (h : a = none ∨ a ≠ b) : b = none ∨ b ≠ a := by
  rcases h with h | h
  · subst h
    cases b
    · exact .inl rfl
    · exact .inr (by simp)
  · exact .inr fun e => h e.symm
set_option maxHeartbeats 8000000 in
theorem walk (w : World) (A0 : Option Addr) (c0 : Nat) (z0 : List GrantD) (u0 : RdR 18 w A0 (gcs z0)) (l0 : z0.length ≤ maxLen) (s0 : ∀ g ∈ z0, g.s.size ≤ maxLen) (A1 : Option Addr) (c1 : Nat) (z1 : List ByteArray) (u1 : RdS w A1 z1) (l1 : z1.length ≤ maxLen) (m1 : ∀ s ∈ z1, s.size ≤ maxLen) :
    Calls Tryz.prog 6 #[.agg #[.slice A0 z0.length c0], .slice A1 z1.length c1] w fun e w' => e = .returned (.bool true) ∧ Below w.heap.size w w' := by
  go_enter Tryz.func6, Tryz.ntmps6
  go_wp2_with fail
  refine (szRegister_any A0 c0 z0 1048576 _ (u0.below (by (repeat (first | exact Below.refl _ _ | assumption | refine Below_al ?_ _ | refine Below.drew ?_ | refine Below_then ?_ (by assumption) | refine Below.setCell ?_ (by first | omega | (simp; done) | (simp; omega)) _)))) (by omega) (by omega) l0 s0).mono ?_
  rintro e y0 ⟨y, rfl, hy, hy0⟩
  have hT : Below w.heap.size w y0 := by (repeat (first | exact Below.refl _ _ | assumption | refine Below_al ?_ _ | refine Below.drew ?_ | refine Below_then ?_ (by assumption) | refine Below.setCell ?_ (by first | omega | (simp; done) | (simp; omega)) _))
  have hF : y0.heap[w.heap.size]? = some (.cells #[.slice A0 z0.length c0] 24 (0, 0)) := heap_keepB (heap_hit _ _ _ rfl) hy0
  clear hy0
  rcases hy with rfl | ⟨q0, q1, q2⟩
  · go_wp2
    go_ret
    exact ⟨rfl, hT⟩
  have HS := Lib.hid q2
  have hyn : ¬ y < 0 := by omega
  go_wp2_with fail
  refine (szStringS_any A1 c1 z1 y _ (u1.below hT) (by omega) l1 m1).mono ?_
  rintro e y00 ⟨rfl, hb⟩
  have hT := Below_then hT hb
  have hF := heap_keepB hF hb
  clear hb
  by_cases hs : (z1.length : Int) + lens z1 ≤ y
  · have hr0 : ¬ szS z1 y < 0 := by unfold szS; rw [if_pos hs]; omega
    generalize szS z1 y = r at hr0 ⊢
    have hzl : z1.length ≤ 1048576 := by omega
    obtain ⟨rr, ok, KS, KI⟩ : ∃ (rr : ByteArray × Int) (ok : Bool), (∀ (A A2 : Option Addr) (w : World), RdR 18 w A (gcs z0) → RdS w A2 z1 → Calls Tryz.prog 26 #[.agg #[.slice A z0.length z0.length], .slice A2 z1.length z1.length] w (RareOk w rr ok)) ∧ (∀ (A A2 : Option Addr) (w : World), RdR 18 w A (gcs z0) → RdS w A2 z1 → Calls Tryz.prog 27 #[.agg #[.slice A z0.length z0.length], .slice A2 z1.length z1.length] w (RareOk w rr ok)) := ⟨raR z0 z1 13, _, fun A A2 w h h2 => by rw [ra_same]; exact specRare_any A z0.length z0 A2 z1.length z1 w h HS.out s0 h2 hzl m1 (Nat.le_refl _) l1, fun A A2 w h h2 => implRare_any A z0.length z0 A2 z1.length z1 w h HS.out s0 h2 hzl m1 (Nat.le_refl _) l0⟩
    have KS' := Lib.hid KS
    have KI' := Lib.hid KI
    have hM0 := True.intro
    have hz0 : z0.length ≤ 1048576 := q2
    clear KS KI l0 s0 l1 m1 q0 q1 q2 hyn hs
    cases ok
    all_goals
      have chF := cell_of hF 0
      go_wp2_with fail
      refine (toRegister_any A0 c0 z0 _ (u0.below hT) HS.out).mono ?_
      rintro e y1 ⟨g1, rfl, ho1, hb⟩
      replace hT := Below_then hT hb
      replace hF := heap_keepB hF hb
      clear chF
      clear hb
      go_wp2_with fail
      refine (toStringS_any A1 c1 z1 _ (u1.below hT) hzl).mono ?_
      rintro e y2 ⟨g2, rfl, ho2, hb⟩
      replace hT := Below_then hT hb
      replace hF := heap_keepB hF hb
      replace ho1 := ho1.below hb
      clear hb
      go_wp2_with fail
      refine (KS'.out _ _ _ ho1.rd (rdOf ho2)).mono ?_
      rintro e y3 ⟨rfl, hb⟩
      replace hT := Below_then hT hb
      replace hF := heap_keepB hF hb
      clear hb ho1 ho2
      have chF := cell_of hF 0
      go_wp2_with fail
      refine (toRegister_any A0 c0 z0 _ (u0.below hT) HS.out).mono ?_
      rintro e y4 ⟨gx, rfl, hoX, hb⟩
      have Q_hF_hoX := Lib.hid (show some gx ≠ some (w.heap.size) from fun e => by injection e with e; have := heap_lt hF; have := hoX.low; omega)
      have T_hoX := Lib.hid (show ∀ k, some gx = some k → w.heap.size ≤ k from fun k hk => by injection hk with hk; have := hoX.low; have := hT.size; omega)
      replace hT := Below_then hT hb
      replace hF := heap_keepB hF hb
      clear chF
      clear hb
      replace hT := Below_al hT (.cells #[.slice (some ⟨gx, 0, none⟩) z0.length z0.length] 33 (0, 0))
      replace hF := heap_keepA hF (.cells #[.slice (some ⟨gx, 0, none⟩) z0.length z0.length] 33 (0, 0))
      replace hoX := hoX.below (Below_al (Below.refl _ _) (.cells #[.slice (some ⟨gx, 0, none⟩) z0.length z0.length] 33 (0, 0)))
      have hX : (y4.alloc (.cells #[.slice (some ⟨gx, 0, none⟩) z0.length z0.length] 33 (0, 0))).heap[y4.heap.size]? = some (.cells #[.slice (some ⟨gx, 0, none⟩) z0.length z0.length] 33 (0, 0)) := heap_hit _ _ _ rfl
      go_wp2_with fail
      refine (toStringS_any A1 c1 z1 _ (u1.below hT) hzl).mono ?_
      rintro e y5 ⟨gy, rfl, hoY, hb⟩
      have P_hoX_hoY := Lib.hid (show some gx = none ∨ some gx ≠ (Value.slice (some ⟨gy, 0, none⟩) z1.length z1.length).ownBlock from .inr fun e => by have := (hoY.lt _ e.symm).1; have := heap_lt hoX.blk; omega)
      have Q_hF_hoY := Lib.hid (show (Value.slice (some ⟨gy, 0, none⟩) z1.length z1.length).ownBlock ≠ some (w.heap.size) from fun e => by have := (hoY.lt _ e).1; have := heap_lt hF; omega)
      have Q_hX_hoY := Lib.hid (show (Value.slice (some ⟨gy, 0, none⟩) z1.length z1.length).ownBlock ≠ some (y4.heap.size) from fun e => by have := (hoY.lt _ e).1; have := heap_lt hX; omega)
      have T_hoY := Lib.hid (show ∀ k, (Value.slice (some ⟨gy, 0, none⟩) z1.length z1.length).ownBlock = some k → w.heap.size ≤ k from fun k hk => by have := (hoY.lt k hk).1; have := hT.size; omega)
      replace hT := Below_then hT hb
      replace hF := heap_keepB hF hb
      replace hX := heap_keepB hX hb
      replace hoX := hoX.below hb
      clear hb
      have chX := cell_of hX 0
      go_wp2_with fail
      refine (KI'.out _ _ _ hoX.rd (rdOf hoY)).mono ?_
      rintro e y6 ⟨rfl, hb⟩
      replace hT := Below_then hT hb
      replace hF := heap_keepB hF hb
      replace hX := heap_keepB hX hb
      replace hoX := hoX.below hb
      replace hoY := hoY.below hb
      clear chX
      clear hb
      have chX := cell_of hX 0
      have chF := cell_of hF 0
      have cX := chX
      have cF := chF
      clear chX chF
      go_wp2_with fail
      refine wp_region_noPanic ?_
      refine wp_region_held_drew (S := (fun w' => w'.cell? ⟨y4.heap.size, 0, none⟩ = some (.slice (some ⟨gx, 0, none⟩) z0.length z0.length : Value) ∧ w'.cell? ⟨w.heap.size, 0, none⟩ = some (.slice A0 z0.length c0 : Value) ∧ Below y6.heap.size y6 w')) (by kernel_rfl) ⟨cX, cF, (Below.refl _ _).drew⟩ (fun hHeld => ?_)
      refine wpAnyH_take (i := 0) (oi := _) (v := ?_) rfl (by kernel_rfl) (by kernel_rfl) (by kernel_rfl) (fun _ _ _ h => h) (Or.inl ⟨by rfl, ?_⟩) (by assumption) ?_
      rotate_left
      · intro w hSw; (try dsimp only at hSw); first | (go_simp; done) | (go_simp; with_reducible rfl)
      simp only [Act.put, List.getElem_toArray, List.getElem_cons_succ, List.getElem_cons_zero, List.setIfInBounds_toArray, List.set_cons_zero, List.set_cons_succ]
      refine wpAnyH_take (i := 1) (oi := _) (v := ?_) rfl (by kernel_rfl) (by kernel_rfl) (by kernel_rfl) (fun _ _ _ h => h) (Or.inl ⟨by rfl, ?_⟩) (by assumption) ?_
      rotate_left
      · intro w hSw; (try dsimp only at hSw); first | (go_simp; done) | (go_simp; with_reducible rfl)
      simp only [Act.put, List.getElem_toArray, List.getElem_cons_succ, List.getElem_cons_zero, List.setIfInBounds_toArray, List.set_cons_zero, List.set_cons_succ]
      refine wpAnyH_ready (rs := [2]) (by kernel_rfl) (by simp) ?_
      refine AllReadyH.cons (o := _) rfl (fun K hK => ?_) AllReadyH.nil
      go_simp
      refine (toRegister_any A0 c0 z0 _ (u0.below (Below_then hT hHeld.2.2)) HS.out).mono ?_
      rintro e v1 ⟨vg, rfl, vo, vh1⟩
      go_wp2_with fail
      refine hK.out _ _ ⟨keep_cell hHeld.1 vh1, keep_cell hHeld.2.1 vh1, Below_then hHeld.2.2 vh1⟩ (fun hHeld => ?_)
      clear hK K
      try simp only [Act.put, List.getElem_toArray, List.getElem_cons_succ, List.getElem_cons_zero, List.setIfInBounds_toArray, List.set_cons_zero, List.set_cons_succ]
      refine wpAnyH_ready (rs := [3]) (by kernel_rfl) (by simp) ?_
      refine AllReadyH.cons (o := _) rfl (fun K hK => ?_) AllReadyH.nil
      go_simp
      refine (eqRegister_same _ _ _ _ z0 _ (hoX.rd.below hHeld.2.2) vo.rd HS.out).mono ?_
      rintro e v2 ⟨rfl, vh2⟩
      go_wp2_with fail
      refine hK.out _ _ ⟨keep_cell hHeld.1 vh2, keep_cell hHeld.2.1 vh2, Below_then hHeld.2.2 vh2⟩ (fun hHeld => ?_)
      clear hK K
      try simp only [Act.put, List.getElem_toArray, List.getElem_cons_succ, List.getElem_cons_zero, List.setIfInBounds_toArray, List.set_cons_zero, List.set_cons_succ]
      refine wpAnyH_take (i := 4) (oi := _) (v := ?_) rfl (by kernel_rfl) (by kernel_rfl) (by kernel_rfl) (fun _ _ _ h => h) (Or.inl ⟨by rfl, ?_⟩) (by assumption) ?_
      rotate_left
      · intro w hSw; clear hSw; first | (go_simp; done) | (go_simp; with_reducible rfl)
      simp only [Act.put, List.getElem_toArray, List.getElem_cons_succ, List.getElem_cons_zero, List.setIfInBounds_toArray, List.set_cons_zero, List.set_cons_succ]
      refine wpAnyH_done (by kernel_rfl) ?_ _
      refine NoPanic.normal ?_
      have hb := hHeld.2.2
      clear hHeld vh1 vh2 vo cX cF
      replace hT := Below_then hT hb
      replace hF := heap_keepB hF hb
      replace hX := heap_keepB hX hb
      replace hoX := hoX.below hb
      replace hoY := hoY.below hb
      clear hb
      go_wp2_with fail
      refine (toStringS_any A1 c1 z1 _ (u1.below hT) hzl).mono ?_
      rintro e y7 ⟨g8, rfl, ho8, hb⟩
      replace hT := Below_then hT hb
      replace hF := heap_keepB hF hb
      replace hX := heap_keepB hX hb
      replace hoX := hoX.below hb
      replace hoY := hoY.below hb
      clear hb
      go_wp2_with fail
      refine (eqSt z1 _ hoY ho8 hzl).mono ?_
      rintro e y8 ⟨rfl, hb⟩
      replace hT := Below_then hT hb
      replace hF := heap_keepB hF hb
      replace hX := heap_keepB hX hb
      replace hoX := hoX.below hb
      replace hoY := hoY.below hb
      clear hb ho8
      go_wp2
      go_ret
      exact ⟨rfl, hT⟩
  · rw [show szS z1 y = -1 from if_neg hs]
    go_wp2
    go_ret
    exact ⟨rfl, hT⟩

/-! ### The row's step: written by a program of mine (frame.py) after the kit's shell -/
theorem laidOut : laidOutB Tryz.prog = true := by kernel_rfl
theorem door_met (os : Os) (args : Array Value) : laidMetH Tryz.prog Rows.fnExactRarestFeatureRow.laid ((World.doorLaid Tryz.prog 400 os).forCall (fun _ _ => 0) ⟨#[], args, []⟩).memory :=
  laidMetH_of_parts3 (fuel := 8) (laidMet_of_run' 8 (by kernel_rfl) (by kernel_rfl)) (by kernel_rfl) (by kernel_rfl)
set_option maxRecDepth 100000 in
theorem lifted (os : Os) (started : os.Started) (H : Type) (enc : TypeId × Value → H) :
    ReturnsInHanded {} Tryz.checked os 6 .any (fun w args => (Rows.fnExactRarestFeatureSpec.pre enc Tryz.prog Tryz.f6 [] false w args ∧ laidMetH Tryz.prog Rows.fnExactRarestFeatureRow.laid w) ∧ sizedMet enc Tryz.prog Tryz.f6 (OpenSpec.ofChange Rows.fnExactRarestFeatureSpec) false w args)
      (Rows.fnExactRarestFeatureSpec.post enc Tryz.prog Tryz.f6 false true false false) := by
  refine returnsInHanded_of_change_and (C := Tryz.checked) (X := fun w _ => laidMetH Tryz.prog Rows.fnExactRarestFeatureRow.laid w) (fun _ _ _ hh h => h.of_heap hh) own started (by kernel_rfl) Tryz.func6
    (ChangeSpec.witness_shaped (enc := enc) (C := Tryz.checked) (os := os) (X := fun w _ => laidMetH Tryz.prog Rows.fnExactRarestFeatureRow.laid w) false (World.doorLaid Tryz.prog 400 os) #[.agg #[.slice none 0 0], .slice none 0 0] 8 rfl (World.shaped_of_RefB (by kernel_rfl) (by kernel_rfl)) (by kernel_rfl) (by kernel_rfl) (by kernel_rfl) (door_met os _)) ?_
  intro W base args ds gs before hval0 hW hcnd _ hL _
  try simp only [List.append_nil] at hW
  have hval : ∀ (j : Nat) t v, Tryz.f6.params[j]? = some t → args[j]? = some v → Value.okWide Tryz.prog W .any base t v := hval0
  have hW' := hW
  obtain ⟨p, q, hA0, hV, rfl, hfz, hnd⟩ := hW
  have hA : DataW.TrodAll enc Tryz.prog W 0 (fun _ => true) true Tryz.f6.params.toList args.toList ds p := hA0
  rw [Tryz.params6] at hA hval
  obtain ⟨v0, vs0, d0, ds0, p0, q0, hargs, rfl, rfl, h0, r0⟩ := trodAll_cons hA
  obtain ⟨v1, vs1, d1, ds1, p1, q1, rfl, rfl, rfl, h1, r1⟩ := trodAll_cons r0
  obtain ⟨rfl, rfl, rfl⟩ := trodAll_nil r1
  obtain rfl : args = #[v0, v1] := by cases args; simp_all
  obtain ⟨rfl, rfl⟩ := trodVars_none hV
  have k0 := h0
  have lt0 : ∀ x ∈ p0, x.block < W.heap.size := by obtain ⟨m, hm⟩ := k0; exact DataW.trod_lt m _ _ _ hm
  obtain ⟨A0, c0, z0, rfl, u0, l0, s0⟩ := openRegister (hval 0 24 v0 rfl rfl) h0
  have k1 := h1
  have lt1 : ∀ x ∈ p1, x.block < W.heap.size := by obtain ⟨m, hm⟩ := k1; exact DataW.trod_lt m _ _ _ hm
  obtain ⟨A1, c1, z1, rfl, u1, l1, w1⟩ := openStrings (hval 1 25 v1 rfl rfl) h1
  clear hA0 hval0
  refine (walk W A0 c0 z0 u0 l0 s0 A1 c1 z1 u1 l1 w1).mono fun e W' ⟨he, bel⟩ => ?_
  subst he
  exact ⟨_, rfl, _, _, _, [], _, [], hW', trodAll_mk1 (shut_bool Tryz.underlying4 _), (trodAll_cons_mk (Below.trod laidOut (by kernel_rfl) (of_decide_eq_true (by kernel_rfl)) k0 bel lt0) (trodAll_cons_mk (Below.trod laidOut (by kernel_rfl) (of_decide_eq_true (by kernel_rfl)) k1 bel lt1) trodAll_mk0)), rfl, bel.frame _, fun h => by cases h⟩

theorem over : Rows.FnExactRarestFeatureSaid :=
  OpenClaim.holds_of_wide 6 Tryz.f6 rfl rfl rfl rfl rfl rfl rfl ⟨rfl, rfl, rfl, rfl, rfl⟩ rfl rfl rfl rfl rfl (by kernel_rfl) Tryz.func6 (by kernel_rfl)
    (of_decide_eq_true (by kernel_rfl)) (by unfold Func.isWrapper; first | (rw [if_pos (by decide +kernel)]; kernel_rfl) | (rw [if_neg (by decide +kernel)]; exact ⟨rfl, rfl⟩))
    (fun os started H enc _ => lifted os started H enc)

theorem proved : Rows.FnExactRarestFeatureCardSaid :=
  Claim7.holds_tied_plain_at .later [] Rows.fnExactRarestFeatureCard.laidKinds true Rows.fnExactRarestFeatureCard.stood.harness false
    over (fun _ h => by cases h) (by kernel_rfl) (fun _ h => by cases h) fnExactRarestFeature_row_tie rfl ⟨rfl, rfl⟩ (by kernel_rfl) rfl
    (fun f fn hf hfn => by
      obtain rfl : f = 6 := Option.some.inj ((show Tryz.prog.funcNamed Rows.fnExactRarestFeatureRow.func = some 6 by kernel_rfl).symm.trans hf) |>.symm
      obtain rfl : fn = Tryz.f6 := (Option.some.inj (Tryz.func6.symm.trans hfn)).symm
      exact ⟨by kernel_rfl, fun j t ht => by
        rw [Tryz.params6] at ht
        have hm : t ∈ ([24, 25] : List TypeId) := by simpa using Array.mem_of_getElem? ht
        have hall : (([24, 25] : List TypeId).all fun u => !Tryz.prog.wantsStandIn u) = true := by kernel_rfl
        exact (show Tryz.prog.wantsStandIn t = false by simpa using List.all_eq_true.1 hall t hm)⟩)
    (by kernel_rfl)
#print axioms proved

end Go.Proofs.YtjkfmnmgelmbfaaGreatDoor.fnExactRarestFeature
