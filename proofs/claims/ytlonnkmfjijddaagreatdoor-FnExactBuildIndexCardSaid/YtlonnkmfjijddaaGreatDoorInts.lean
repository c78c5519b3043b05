/- Contracts of the laws' own helpers on slices of numbers: equality, marks, what is held, copies, sizes. -/
import Derived.Test.YtlonnkmfjijddaaGreatDoorHead
import Derived.Test.YtlonnkmfjijddaaGreatDoorMem2
namespace Go.Proofs.YtlonnkmfjijddaaGreatDoor
open Go.ChangeShapes Go.WideShapes Go.ChangeAt Go.RowKit

theorem retB {a b : Bool} (h : a = b) : Ending.returned (.bool a) = .returned (.bool b) := by rw [h]
theorem retI {a b : Int} (h : a = b) : Ending.returned (.int .i64 a) = .returned (.int .i64 b) := by rw [h]
set_option maxHeartbeats 1000000 in
theorem eqIntS_any (A A' : Option Addr) (c c' : Nat) (xs ys : List Int) (w : World) (h1 : RdI w A xs) (h2 : RdI w A' ys) (hx : xs.length ≤ 1099511627776) (hy : ys.length ≤ 1099511627776) :
    Calls Tryz.prog 48 #[.slice A xs.length c, .slice A' ys.length c'] w fun e w' => e = .returned (.bool (decide (xs = ys))) ∧ Below w.heap.size w w' := by
  by_cases hl : xs.length = ys.length
  · have hd : ((xs.length : Int) != (ys.length : Int)) = false := by simp [hl]
    have HL := Lib.hid hl
    clear hl
    go_enter Tryz.func48, Tryz.ntmps48
    go_wp2_with fail
    clear hd
    go_loopw [5] (fun i wr => ∃ k : Nat, k ≤ xs.length ∧ i = .int .i64 k ∧ (∀ j, j < k → xs[j]? = ys[j]?) ∧ Below w.heap.size w wr) (fun i _ => xs.length - (intOf i).toNat)
    case atStart => exact ⟨0, Nat.zero_le _, rfl, fun j hj => absurd hj (by omega), Below.refl _ _⟩
    case round =>
      obtain ⟨k, hk, rfl, hall, hb⟩ := hrel
      have HA := Lib.hid hall
      clear hall
      by_cases hlt : k < xs.length
      · have hl := HL.out
        obtain ⟨b, off, rfl, hc1, -⟩ := (h1.below hb).at_ hlt
        obtain ⟨b', off', rfl, hc2, -⟩ := (h2.below hb).at_ (by omega : k < ys.length)
        obtain ⟨x, ex⟩ : ∃ x, x = xs[k] := ⟨_, rfl⟩
        obtain ⟨y, ey⟩ : ∃ y, y = ys[k] := ⟨_, rfl⟩
        rw [← ex] at hc1
        rw [← ey] at hc2
        have i1 : (k : Int) < (xs.length : Int) := by omega
        have i2 : (k : Int) < (ys.length : Int) := by omega
        have d1 : decide (k < xs.length) = true := by simpa using hlt
        have EX := Lib.hid ex
        have EY := Lib.hid ey
        clear ex ey
        by_cases hxy : x = y
        · have hn : (x != y) = false := by simpa using hxy
          have HXY := Lib.hid hxy
          clear hxy
          go_wp2
          go_region
          go_wp2
          go_roundw
          case rel =>
            refine ⟨k + 1, by omega, by go_num, fun j hj => ?_, hb.drew⟩
            by_cases e : j = k
            · subst e
              rw [List.getElem?_eq_getElem hlt, List.getElem?_eq_getElem (by omega), ← EX.out, ← EY.out, HXY.out]
            · exact HA.out j (by omega)
          case measure => simp [intOf]; omega
        · have hn : (x != y) = true := by simpa using hxy
          go_wp2
          go_region
          go_wp2
          go_ret
          refine ⟨retB ?_, hb.drew⟩
          symm
          rw [decide_eq_false_iff_not]
          intro e
          subst e
          exact hxy (by rw [EX.out, EY.out])
      · have hk' : k = xs.length := by omega
        have d1 : decide (k < xs.length) = false := by simpa using hlt
        go_wp2
        go_ret
        refine ⟨retB ?_, hb⟩
        symm
        rw [decide_eq_true_iff]
        apply List.ext_getElem? 
        intro j
        by_cases hj : j < k
        · exact HA.out j hj
        · have hl := HL.out
          rw [List.getElem?_eq_none (by omega), List.getElem?_eq_none (by omega)]
  · have hd : ((xs.length : Int) != (ys.length : Int)) = true := by simp; omega
    go_enter Tryz.func48, Tryz.ntmps48
    go_wp2
    go_ret
    refine ⟨retB ?_, Below.refl _ _⟩
    symm
    rw [decide_eq_false_iff_not]
    intro e
    exact hl (by rw [e])
def MarkPost (w : World) (B : Nat) (v : Value) (zs : List Int) (k0 : Int) (e : Ending) (w' : World) : Prop :=
  e = .returned (.int .i64 (k0 + zs.length)) ∧ OwnI w' B 3 v (marks k0 zs.length) ∧ w.grownBy w' v.ownBlock
set_option maxHeartbeats 1000000 in
theorem markIntS_wide (B : Nat) (v : Value) (zs : List Int) (k0 : Int) (w : World) (h : OwnI w B 3 v zs) (hx : zs.length ≤ 1099511627776) (hk0 : 0 ≤ k0) (hk1 : k0 ≤ 1125899906842624) :
    Calls Tryz.prog 28 #[v, .int .i64 k0] w (MarkPost w B v zs k0) := by
  by_cases hp : 0 < zs.length
  · obtain ⟨g, c, rfl, hB, hg⟩ := h.pos hp
    go_enter Tryz.func28, Tryz.ntmps28
    go_wp2_with fail
    go_loopw [1, 5] (fun kk i wr => ∃ k : Nat, k ≤ zs.length ∧ i = .int .i64 k ∧ kk = .int .i64 (k0 + k) ∧ OwnI wr B 3 (.slice (some ⟨g, 0, none⟩) zs.length c) (markL k0 zs k) ∧ w.grownBy wr (some g)) (fun _ i _ => zs.length - (intOf i).toNat)
    case atStart => exact ⟨0, Nat.zero_le _, rfl, by simp, h, World.grownBy.refl _ _⟩
    case round =>
      obtain ⟨k, hk, rfl, rfl, hown, hgr⟩ := hrel
      have hlen := markL_len k0 zs k hk
      rw [← hlen] at hown
      by_cases hlt : k < zs.length
      · have hc := hown.cellAt k (by omega)
        have hf := hown.frozenAt k
        obtain ⟨x, ex⟩ : ∃ x, x = (markL k0 zs k)[k]'(by omega) := ⟨_, rfl⟩
        rw [← ex] at hc
        have hset := hown.set k (k0 + k)
        rw [markL_set k0 zs k hlt, hlen] at hset
        have i1 : (k : Int) < (zs.length : Int) := by omega
        have d1 : decide (k < zs.length) = true := by simpa using hlt
        clear ex hown hlen
        go_wp2
        go_roundw
        case rel => exact ⟨k + 1, by omega, by go_num, by go_num, hset, grownBy_set hgr _ _⟩
        case measure => simp [intOf]; omega
      · have hk' : k = zs.length := by omega
        have d1 : decide (k < zs.length) = false := by simpa using hlt
        rw [hlen] at hown
        subst hk'
        rw [markL_all] at hown
        clear hlen
        go_wp2
        go_ret
        refine ⟨rfl, ?_, hgr⟩
        rw [← marks_len zs.length k0] at hown
        simpa [OwnI, marks_len] using hown
  · have hz : zs = [] := List.eq_nil_of_length_eq_zero (by omega)
    subst hz
    obtain ⟨A, c, rfl, _⟩ := h.form
    go_enter Tryz.func28, Tryz.ntmps28
    go_wp2_with fail
    refine wp_loop_rounds 1 ?_
    rw [rounds_succ]
    go_wp2
    go_ret
    exact ⟨retI (by simp), h, World.grownBy.refl _ _⟩
theorem markIntS_any (B : Nat) (v : Value) (zs : List Int) (k0 : Int) (w : World) (h : OwnI w B 3 v zs) (hx : zs.length ≤ 1099511627776) (hk0 : 0 ≤ k0) (hk1 : k0 ≤ 1099511627776) :
    Calls Tryz.prog 28 #[v, .int .i64 k0] w (MarkPost w B v zs k0) := markIntS_wide B v zs k0 w h hx hk0 (by omega)
set_option maxHeartbeats 1000000 in
theorem heldIntS_any (A : Option Addr) (c : Nat) (zs : List Int) (k0 : Int) (w : World) (h : RdI w A zs) (hx : zs.length ≤ 1099511627776) (hk0 : 0 ≤ k0) (hk1 : k0 ≤ 1099511627776) :
    Calls Tryz.prog 29 #[.slice A zs.length c, .int .i64 k0] w fun e w' => e = .returned (.int .i64 (heldR zs k0)) ∧ Below w.heap.size w w' := by
  go_enter Tryz.func29, Tryz.ntmps29
  go_wp2_with fail
  go_loopw [1, 5] (fun kk i wr => ∃ k : Nat, k ≤ zs.length ∧ i = .int .i64 k ∧ kk = .int .i64 (k0 + k) ∧ (∀ (j : Nat) (hj : j < zs.length), j < k → zs[j] = k0 + j) ∧ Below w.heap.size w wr) (fun _ i _ => zs.length - (intOf i).toNat)
  case atStart => exact ⟨0, Nat.zero_le _, rfl, by simp, fun j _ hj => absurd hj (by omega), Below.refl _ _⟩
  case round =>
    obtain ⟨k, hk, rfl, rfl, hall, hb⟩ := hrel
    have HA := Lib.hid hall
    clear hall
    by_cases hlt : k < zs.length
    · obtain ⟨b, off, rfl, hc1, -⟩ := (h.below hb).at_ hlt
      obtain ⟨x, ex⟩ : ∃ x, x = zs[k] := ⟨_, rfl⟩
      rw [← ex] at hc1
      have i1 : (k : Int) < (zs.length : Int) := by omega
      have d1 : decide (k < zs.length) = true := by simpa using hlt
      have EX := Lib.hid ex
      clear ex
      by_cases hxy : x = k0 + k
      · have hn : (x != k0 + (k : Int)) = false := by simpa using hxy
        have HXY := Lib.hid hxy
        clear hxy
        go_wp2
        go_roundw
        case rel =>
          refine ⟨k + 1, by omega, by go_num, by go_num, fun j hj hjk => ?_, hb⟩
          by_cases e : j = k
          · subst e
            rw [← EX.out, HXY.out]
          · exact HA.out j hj (by omega)
        case measure => simp [intOf]; omega
      · have hn : (x != k0 + (k : Int)) = true := by simpa using hxy
        go_wp2
        go_ret
        refine ⟨retI ?_, hb⟩
        unfold heldR
        rw [if_neg]
        intro e
        apply hxy
        rw [EX.out]
        have := congrArg (fun l : List Int => l[k]?) e
        simp only [List.getElem?_eq_getElem hlt] at this
        rw [List.getElem?_eq_getElem (by rw [marks_len]; exact hlt), marks_get] at this
        exact Option.some.inj this
    · have hk' : k = zs.length := by omega
      have d1 : decide (k < zs.length) = false := by simpa using hlt
      go_wp2
      go_ret
      refine ⟨retI ?_, hb⟩
      unfold heldR
      rw [if_pos]
      · omega
      · apply List.ext_getElem (by rw [marks_len])
        intro j h1 h2
        rw [marks_get, HA.out j h1 (by omega)]
end Go.Proofs.YtlonnkmfjijddaaGreatDoor
