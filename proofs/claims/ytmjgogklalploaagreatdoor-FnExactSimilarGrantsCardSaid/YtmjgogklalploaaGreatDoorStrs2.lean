/- Contracts of the laws' own helpers on slices of texts: equality, marks, what is held, copies, sizes. -/
import Derived.Test.YtmjgogklalploaaGreatDoorStrs
import Derived.Test.YtmjgogklalploaaGreatDoorFeatP
import Derived.Test.YtmjgogklalploaaGreatDoorMark
import Derived.Test.YtmjgogklalploaaGreatDoorInts
import Derived.Deep.RegionHeld3
namespace Go.Proofs.YtmjgogklalploaaGreatDoor
open Go.ChangeShapes Go.WideShapes Go.ChangeAt Go.RowKit
set_option linter.unusedVariables false
set_option linter.unusedSimpArgs false
/-- The texts that mark: of k, k + 1 .. -/
def mtS (k : Int) : Nat → List ByteArray
  | 0 => []
  | n + 1 => mtX k :: mtS (k + 1) n
theorem mtS_len (n : Nat) : ∀ k, (mtS k n).length = n := by
  induction n with
  | zero => intro k; rfl
  | succ n ih => intro k; simp [mtS, ih]
theorem mtS_get (n : Nat) : ∀ (k : Int) (i : Nat) (h : i < (mtS k n).length), (mtS k n)[i] = mtX (k + i) := by
  induction n with
  | zero => intro k i h; simp [mtS] at h
  | succ n ih =>
    intro k i h
    cases i with
    | zero => simp [mtS]
    | succ i =>
      simp only [mtS, List.getElem_cons_succ]
      rw [ih, show k + 1 + (i : Int) = k + ((i + 1 : Nat) : Int) from by omega]
def mtL (k0 : Int) (zs : List ByteArray) (k : Nat) : List ByteArray := mtS k0 k ++ zs.drop k
theorem mtS_snoc (n : Nat) : ∀ k, mtS k (n + 1) = mtS k n ++ [mtX (k + (n : Int))] := by
  induction n with
  | zero => intro k; simp [mtS]
  | succ n ih =>
    intro k
    rw [mtS, ih (k + 1)]
    simp only [mtS, List.cons_append]
    congr 4
    omega
theorem mtL_len (k0 : Int) (zs : List ByteArray) (k : Nat) (h : k ≤ zs.length) : (mtL k0 zs k).length = zs.length := by simp [mtL, mtS_len]; omega
theorem mtL_all (k0 : Int) (zs : List ByteArray) : mtL k0 zs zs.length = mtS k0 zs.length := by simp [mtL]
theorem mtL_set (k0 : Int) (zs : List ByteArray) (k : Nat) (h : k < zs.length) : (mtL k0 zs k).set k (mtX (k0 + k)) = mtL k0 zs (k + 1) := by
  unfold mtL
  rw [List.set_append_right _ _ (by rw [mtS_len]; omega), mtS_len, Nat.sub_self, List.drop_eq_getElem_cons h, List.set_cons_zero, mtS_snoc]
  simp
def copyS (zs : List ByteArray) (k : Nat) : List ByteArray := zs.take k ++ List.replicate (zs.length - k) ⟨#[]⟩
theorem copyS_len (zs : List ByteArray) (k : Nat) (h : k ≤ zs.length) : (copyS zs k).length = zs.length := by simp [copyS]; omega
theorem copyS_zero (zs : List ByteArray) : copyS zs 0 = List.replicate zs.length ⟨#[]⟩ := by simp [copyS]
theorem copyS_all (zs : List ByteArray) : copyS zs zs.length = zs := by simp [copyS]
theorem copyS_set (zs : List ByteArray) (k : Nat) (h : k < zs.length) : (copyS zs k).set k (zs[k]) = copyS zs (k + 1) := by
  unfold copyS
  have hl : (zs.take k).length = k := by simp; omega
  rw [List.set_append_right _ _ (by omega), hl, Nat.sub_self, show zs.length - k = (zs.length - (k + 1)) + 1 from by omega, List.replicate_succ, List.set_cons_zero, List.take_succ_eq_append_getElem h, List.append_assoc]
  rfl
theorem made_strs (n : Nat) : (madeCells #[Value.string ⟨#[]⟩] n).toList = sv (List.replicate n ⟨#[]⟩) := by
  rw [show sv (List.replicate n ⟨#[]⟩) = List.replicate n (Value.string ⟨#[]⟩) from by simp [sv]]
  exact toList_madeCells_one _ _
/-- How many bytes texts have. -/
def lens (zs : List ByteArray) : Nat := (zs.map ByteArray.size).sum
theorem lens_take {zs : List ByteArray} {k : Nat} (h : k < zs.length) : lens (zs.take (k + 1)) = lens (zs.take k) + zs[k].size := by
  unfold lens
  rw [List.take_add_one, List.getElem?_eq_getElem h, List.map_append, List.sum_append]
  simp
theorem lens_le (zs : List ByteArray) (k : Nat) : lens (zs.take k) ≤ lens zs := by
  unfold lens
  have : (zs.map ByteArray.size).sum = ((zs.take k).map ByteArray.size).sum + ((zs.drop k).map ByteArray.size).sum := by
    rw [← List.sum_append, ← List.map_append, List.take_append_drop]
  omega
set_option maxHeartbeats 1000000 in
theorem eqStringS_any (A A' : Option Addr) (c c' : Nat) (xs ys : List ByteArray) (w : World) (h1 : RdS w A xs) (h2 : RdS w A' ys) (hx : xs.length ≤ 1099511627776) (hy : ys.length ≤ 1099511627776) :
    Calls Tryz.prog 20 #[.slice A xs.length c, .slice A' ys.length c'] w fun e w' => e = .returned (.bool (decide (xs = ys))) ∧ Below w.heap.size w w' := by
  by_cases hl : xs.length = ys.length
  · have hd : ((xs.length : Int) != (ys.length : Int)) = false := by simp [hl]
    have HL := Lib.hid hl
    clear hl
    go_enter Tryz.func20, Tryz.ntmps20
    go_wp2_with fail
    clear hd
    go_loopw [5] (fun i wr => ∃ k : Nat, k ≤ xs.length ∧ i = .int .i64 k ∧ (∀ j, j < k → xs[j]? = ys[j]?) ∧ Below w.heap.size w wr) (fun i _ => xs.length - (intOf i).toNat)
    case atStart => exact ⟨0, Nat.zero_le _, rfl, fun j hj => absurd hj (by omega), Below.refl _ _⟩
    case round =>
      obtain ⟨k, hk, rfl, hall, hb⟩ := hrel
      have HA := Lib.hid hall
      clear hall
      by_cases hlt : k < xs.length
      · have hl := HL.out
        obtain ⟨b, off, rfl, hc1, -⟩ := (h1.below hb).at_ hlt
        obtain ⟨b', off', rfl, hc2, -⟩ := (h2.below hb).at_ (by omega : k < ys.length)
        obtain ⟨x, ex⟩ : ∃ x, x = xs[k] := ⟨_, rfl⟩
        obtain ⟨y, ey⟩ : ∃ y, y = ys[k] := ⟨_, rfl⟩
        rw [← ex] at hc1
        rw [← ey] at hc2
        have i1 : (k : Int) < (xs.length : Int) := by omega
        have i2 : (k : Int) < (ys.length : Int) := by omega
        have d1 : decide (k < xs.length) = true := by simpa using hlt
        have EX := Lib.hid ex
        have EY := Lib.hid ey
        clear ex ey
        by_cases hxy : x = y
        · have hn : (x.toList == y.toList) = true := eqS_iff.2 hxy
          have HXY := Lib.hid hxy
          clear hxy
          go_wp2
          go_region
          go_wp2
          go_roundw
          case rel =>
            refine ⟨k + 1, by omega, by go_num, fun j hj => ?_, hb.drew⟩
            by_cases e : j = k
            · subst e
              rw [List.getElem?_eq_getElem hlt, List.getElem?_eq_getElem (by omega), ← EX.out, ← EY.out, HXY.out]
            · exact HA.out j (by omega)
          case measure => simp [intOf]; omega
        · have hn : (x.toList == y.toList) = false := eqS_ne hxy
          go_wp2
          go_region
          go_wp2
          go_ret
          refine ⟨retB ?_, hb.drew⟩
          symm
          rw [decide_eq_false_iff_not]
          intro e
          subst e
          exact hxy (by rw [EX.out, EY.out])
      · have hk' : k = xs.length := by omega
        have HK := Lib.hid hk'
        clear hk'
        have d1 : decide (k < xs.length) = false := by simpa using hlt
        go_wp2
        go_ret
        have hk' := HK.out
        refine ⟨retB ?_, hb⟩
        symm
        rw [decide_eq_true_iff]
        apply List.ext_getElem? 
        intro j
        by_cases hj : j < k
        · exact HA.out j hj
        · have hl := HL.out
          rw [List.getElem?_eq_none (by omega), List.getElem?_eq_none (by omega)]
  · have hd : ((xs.length : Int) != (ys.length : Int)) = true := by simp; omega
    go_enter Tryz.func20, Tryz.ntmps20
    go_wp2
    go_ret
    refine ⟨retB ?_, Below.refl _ _⟩
    symm
    rw [decide_eq_false_iff_not]
    intro e
    exact hl (by rw [e])
def MarkPostS (w : World) (B : Nat) (v : Value) (zs : List ByteArray) (k0 : Int) (e : Ending) (w' : World) : Prop :=
  e = .returned (.int .i64 (k0 + zs.length)) ∧ OwnS w' B 9 v (mtS k0 zs.length) ∧ w.grownBy w' v.ownBlock
set_option maxHeartbeats 1000000 in
theorem markStringS_any (B : Nat) (v : Value) (zs : List ByteArray) (k0 : Int) (w : World) (h : OwnS w B 9 v zs) (hx : zs.length ≤ 1048576) (hk0 : 1 ≤ k0) (hk1 : k0 ≤ 100000000) :
    Calls Tryz.prog 21 #[v, .int .i64 k0] w (MarkPostS w B v zs k0) := by
  by_cases hp : 0 < zs.length
  · obtain ⟨g, c, rfl, hB, hg⟩ := h.pos hp
    go_enter Tryz.func21, Tryz.ntmps21
    go_wp2_with fail
    go_loopw [1, 5] (fun kk i wr => ∃ k : Nat, k ≤ zs.length ∧ i = .int .i64 k ∧ kk = .int .i64 (k0 + k) ∧ OwnS wr B 9 (.slice (some ⟨g, 0, none⟩) zs.length c) (mtL k0 zs k) ∧ w.grownBy wr (some g)) (fun _ i _ => zs.length - (intOf i).toNat)
    case atStart => exact ⟨0, Nat.zero_le _, rfl, by simp, h, World.grownBy.refl _ _⟩
    case round =>
      obtain ⟨k, hk, rfl, rfl, hown, hgr⟩ := hrel
      have hlen := mtL_len k0 zs k hk
      rw [← hlen] at hown
      by_cases hlt : k < zs.length
      · have hset0 : ∀ w2, Below wr.heap.size wr w2 → OwnS (w2.setCell ⟨g, k, none⟩ (.string (mtX (k0 + k)))) B 9 (.slice (some ⟨g, 0, none⟩) zs.length c) (mtL k0 zs (k + 1)) := fun w2 hb => by
          have := (hown.below hb).set k (mtX (k0 + k))
          rw [mtL_set k0 zs k hlt, hlen] at this
          exact this
        have hc0 : ∃ x, ∀ w2, Below wr.heap.size wr w2 → w2.cell? ⟨g, k, none⟩ = some (.string x) ∧ w2.frozen? ⟨g, k, none⟩ = false := ⟨(mtL k0 zs k)[k]'(by omega), fun w2 hb => ⟨(hown.below hb).cellAt k (by omega), (hown.below hb).frozenAt k⟩⟩
        obtain ⟨x, hc0⟩ := hc0
        have i1 : (k : Int) < (zs.length : Int) := by omega
        have d1 : decide (k < zs.length) = true := by simpa using hlt
        clear hown hlen
        go_wp2_with fail
        refine (markTextX (k0 + k) _ (by omega) (by omega)).mono ?_
        rintro e w2 ⟨rfl, hb2⟩
        obtain ⟨hc, hf⟩ := hc0 _ hb2
        have hset := hset0 _ hb2
        have hgr2 := grownBy_below hgr hb2
        clear hc0 hset0 hb2
        go_wp2
        go_roundw
        case rel => exact ⟨k + 1, by omega, by go_num, by go_num, hset, grownBy_set hgr2 _ _⟩
        case measure => simp [intOf]; omega
      · obtain rfl : k = zs.length := by omega
        have d1 : decide (zs.length < zs.length) = false := by simp
        rw [hlen, mtL_all] at hown
        have HO := Lib.hid hown
        have HG := Lib.hid hgr
        clear hown hgr hlen hlt
        go_wp2
        go_ret
        exact ⟨rfl, HO.out, HG.out⟩
  · have hz : zs = [] := List.eq_nil_of_length_eq_zero (by omega)
    subst hz
    obtain ⟨A, c, rfl, _⟩ := h.form
    go_enter Tryz.func21, Tryz.ntmps21
    go_wp2_with fail
    refine wp_loop_rounds 1 ?_
    rw [rounds_succ]
    go_wp2
    go_ret
    exact ⟨retI (by simp), h, World.grownBy.refl _ _⟩
end Go.Proofs.YtmjgogklalploaaGreatDoor
