/- Contracts: whether a list is one of features, both sides; whether a list has a text. -/
import Derived.Test.YtlonnkmfjijddaaGreatDoorFeat2
import Derived.Test.YtlonnkmfjijddaaGreatDoorStrs2
namespace Go.Proofs.YtlonnkmfjijddaaGreatDoor
open Go.ChangeShapes Go.WideShapes Go.ChangeAt Go.RowKit
set_option linter.unusedVariables false
set_option linter.unusedSimpArgs false
/-- The feature at a place is one, and stands behind the one ahead of it. -/
def okAt (zs : List ByteArray) (i : Nat) : Bool :=
  match zs[i]? with
  | none => true
  | some x => hasB FEATS x && (decide (i = 0) || match zs[i - 1]? with | none => true | some y => ltS y x)
def lsOk (zs : List ByteArray) : Bool := (List.range zs.length).all (okAt zs) && decide (zs.length ≤ 10)
theorem lsOk_no {zs : List ByteArray} {k : Nat} {x : ByteArray} (hx : zs[k]? = some x) (h : okAt zs k = false) : lsOk zs = false := by
  have hk := (List.getElem?_eq_some_iff.1 hx).1
  unfold lsOk
  rw [Bool.and_eq_false_iff]
  left
  rw [List.all_eq_false]
  exact ⟨k, List.mem_range.2 hk, by rw [h]; simp⟩
theorem lsOk_len {zs : List ByteArray} (h : ∀ j, j < zs.length → okAt zs j = true) : lsOk zs = decide (zs.length ≤ 10) := by
  unfold lsOk
  rw [List.all_eq_true.2 fun j hj => h j (List.mem_range.1 hj), Bool.true_and]
theorem lsOk_small {zs : List ByteArray} (h : lsOk zs = true) : zs.length ≤ 10 := by
  unfold lsOk at h
  rw [Bool.and_eq_true] at h
  exact of_decide_eq_true h.2
set_option maxHeartbeats 2000000 in
theorem l17Has_any (A : Option Addr) (c : Nat) (zs : List ByteArray) (s : ByteArray) (w : World) (h : RdS w A zs) (hx : zs.length ≤ 1048576) :
    Calls Tryz.prog 17 #[.slice A zs.length c, .string s] w fun e w' => e = .returned (.bool (hasB zs s)) ∧ w = w' := by
  go_enter Tryz.func17, Tryz.ntmps17
  go_wp2_with fail
  go_loopw [5] (fun i wr => ∃ k : Nat, k ≤ zs.length ∧ i = .int .i64 k ∧ (∀ j x, j < k → zs[j]? = some x → x ≠ s) ∧ w = wr) (fun i _ => zs.length - (intOf i).toNat)
  case atStart => exact ⟨0, Nat.zero_le _, rfl, fun j _ hj => absurd hj (by omega), rfl⟩
  case round =>
    obtain ⟨k, hk, rfl, hall, rfl⟩ := hrel
    have HA := Lib.hid hall
    clear hall
    by_cases hlt : k < zs.length
    · obtain ⟨b, off, rfl, c1, -⟩ := h.at_ hlt
      obtain ⟨x, hx⟩ : ∃ x, x = zs[k] := ⟨_, rfl⟩
      rw [← hx] at c1
      have hxk : zs[k]? = some x := by rw [hx]; exact List.getElem?_eq_getElem hlt
      have HX := Lib.hid hxk
      have i1 : (k : Int) < (zs.length : Int) := by omega
      have d1 : decide (k < zs.length) = true := by simpa using hlt
      clear hx hxk
      by_cases he : x = s
      · have g1 : (x.toList == s.toList) = true := eqS_iff.2 he
        have HE := Lib.hid he
        clear he
        go_wp2
        go_ret
        exact ⟨retB (hasB_iff.2 (by rw [← HE.out]; exact List.mem_of_getElem? HX.out)).symm, rfl⟩
      · have g1 : (x.toList == s.toList) = false := eqS_ne he
        have HE := Lib.hid he
        clear he
        go_wp2
        go_roundw
        case rel =>
          refine ⟨k + 1, by omega, by go_num, fun j x' hj hx' => ?_, by first | trivial | rfl⟩
          by_cases e : j = k
          · subst e
            rw [HX.out] at hx'
            injection hx' with hx'
            subst hx'
            exact HE.out
          · exact HA.out j x' (by omega) hx'
        case measure => simp [intOf]; omega
    · obtain rfl : k = zs.length := by omega
      have d1 : decide (zs.length < zs.length) = false := by simp
      go_wp2
      go_ret
      refine ⟨retB ?_, rfl⟩
      symm
      rw [Bool.eq_false_iff]
      intro hh
      obtain ⟨j, hj⟩ := List.getElem?_of_mem (hasB_iff.1 hh)
      exact HA.out j s (List.getElem?_eq_some_iff.1 hj).1 hj rfl
end Go.Proofs.YtlonnkmfjijddaaGreatDoor
