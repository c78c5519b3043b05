/- The library's sorting, compacting, searching of texts, over rows of the call's own. -/
import Derived.Test.YtlonnkmfjijddaaGreatDoorStrs
import Derived.Test.YtlonnkmfjijddaaGreatDoorFeatP
import Derived.Test.YtlonnkmfjijddaaGreatDoorShelf
import Derived.Lib.OwnBridge
import Derived.Sort.OwnSorted
namespace Go.Proofs.YtlonnkmfjijddaaGreatDoor
open Go.ChangeShapes Go.WideShapes Go.ChangeAt Go.RowKit
set_option linter.unusedVariables false
def dl (zs : List ByteArray) : List (List UInt8) := zs.map (·.data.toList)
theorem dl_len (zs : List ByteArray) : (dl zs).length = zs.length := by simp [dl]
theorem sv_dl (zs : List ByteArray) : (dl zs).map encStr = sv zs := Lib.map_encStr zs
theorem sv_toB (l : List (List UInt8)) : sv (l.map toB) = l.map encStr := by simp [sv, toB, encStr]
def sortB (zs : List ByteArray) : List ByteArray := ((dl zs).mergeSort fun x y => decide (x ≤ y)).map toB
theorem sortB_len (zs : List ByteArray) : (sortB zs).length = zs.length := by simp [sortB, dl]
def compB (zs : List ByteArray) : List ByteArray := (Lib.compact (dl zs)).map toB
theorem compB_len (zs : List ByteArray) : (compB zs).length ≤ zs.length := by
  have := Lib.compact_length_le (dl zs)
  rw [dl_len] at this
  simpa [compB] using this
def hasB (zs : List ByteArray) (x : ByteArray) : Bool := zs.any fun y => y.toList == x.toList
theorem hasB_iff {zs : List ByteArray} {x : ByteArray} : hasB zs x = true ↔ x ∈ zs := by
  unfold hasB
  rw [List.any_eq_true]
  constructor
  · rintro ⟨y, hy, h⟩
    rw [← eqS_iff.1 h]
    exact hy
  · exact fun h => ⟨x, h, eqS_self x⟩
theorem sortS_any (B : Nat) (v : Value) (zs : List ByteArray) (w : World) (h : OwnS w B 9 v zs) (hl : zs.length ≤ 1048576) :
    Calls Tryz.prog 44 #[v] w fun e w' => e = .returned (.tuple #[]) ∧ OwnS w' B 9 v (sortB zs) ∧ w.grownBy w' v.ownBlock := by
  have h0 := h
  obtain ⟨hlen, ⟨h1, h2⟩ | ⟨g, cap, cur, rfl, hB, hh, hn, hm, hs, ht⟩⟩ := h
  · have hz : zs = [] := List.eq_nil_of_length_eq_zero h2
    subst h1 hz
    refine (Tryz.slices_Sort_string_none none 0 w).mono ?_
    rintro e w' ⟨rfl, rfl⟩
    refine ⟨rfl, ?_, World.grownBy.refl _ _⟩
    rw [show sortB [] = [] from List.eq_nil_of_length_eq_zero (by rw [sortB_len]; rfl)]
    exact h0
  · rw [Nat.mul_one, ← sv_dl, ← dl_len] at ht
    have hH := holds_of_block hh ht
    have hK := Tryz.slices_Sort_string g 0 cap (dl zs) w hH (heap_lt hh) (by rw [dl_len]; omega)
    rw [dl_len] at hK
    refine hK.mono ?_
    rintro e w' ⟨rfl, n, os, rfl⟩
    refine ⟨rfl, ?_, grownBy_sorted _⟩
    have := ownsRow_sorted (w := w) (base := B) (g := g) (cap := cap) (n := n) (e := 9) (os := os) (cur := cur) (ss := dl zs) (ts := (dl zs).mergeSort fun x y => decide (x ≤ y)) (by simp) hB hh (by rw [dl_len]; exact hn) hm hs
    unfold OwnS
    rw [sortB_len, sortB, sv_toB]
    rw [dl_len] at this
    exact this
theorem compS_any (B : Nat) (v : Value) (zs : List ByteArray) (w : World) (h : OwnS w B 9 v zs) (hl : zs.length ≤ 1048576) :
    Calls Tryz.prog 66 #[v] w fun e w' => ∃ v', e = .returned v' ∧ OwnS w' B 9 v' (compB zs) ∧ Below B w w' ∧ w.grownBy w' v.ownBlock := by
  have h0 := h
  obtain ⟨hlen, ⟨h1, h2⟩ | ⟨g, cap, cur, rfl, hB, hh, hn, hm, hs, ht⟩⟩ := h
  · have hz : zs = [] := List.eq_nil_of_length_eq_zero h2
    subst h1 hz
    refine (Tryz.slices_Compact_string_empty none 0 w).mono ?_
    rintro e w' ⟨rfl, rfl⟩
    refine ⟨_, rfl, ?_, Below.refl _ _, World.grownBy.refl _ _⟩
    rw [show compB [] = [] from List.eq_nil_of_length_eq_zero (by have := compB_len []; simpa using this)]
    exact h0
  · rw [Nat.mul_one, ← sv_dl, ← dl_len] at ht
    have hH := holds_of_block hh ht
    have hK := Tryz.slices_Compact_string g 0 cap (dl zs) w hH (by rw [dl_len]; omega) (by rw [dl_len]; exact hn)
    rw [dl_len] at hK
    refine hK.mono ?_
    rintro e w' ⟨rfl, q, rfl⟩
    have hc := Lib.compact_length_le (dl zs)
    rw [dl_len] at hc
    have hO : w.ownsRow B 9 1 (.slice (some ⟨g, 0, none⟩) zs.length cap) zs.length ((dl zs).map encStr) := by rw [sv_dl]; exact h0
    have := Lib.ownsRow_putRow (q := q) (k := (Lib.compact (dl zs)).length) (ys := Lib.compact (dl zs) ++ List.replicate (zs.length - (Lib.compact (dl zs)).length) []) hO (by simp; omega) hc
    rw [List.take_left] at this
    refine ⟨_, rfl, ?_, Lib.below_putRow (Below.refl _ _) hB, ?_⟩
    · unfold OwnS
      rw [compB, sv_toB, List.length_map]
      exact this
    · have := grownBy_sorted (w := w) (g := g) (n := q) (os := #[]) (Lib.compact (dl zs) ++ List.replicate (zs.length - (Lib.compact (dl zs)).length) []).toArray
      rw [Sort.grow_empty] at this
      exact this
theorem hasS_any (A : Option Addr) (c : Nat) (zs : List ByteArray) (x : ByteArray) (w : World) (h : RdS w A zs) (hl : zs.length ≤ 1048576) :
    Calls Tryz.prog 47 #[.slice A zs.length c, .string x] w fun e w' => e = .returned (.bool (hasB zs x)) ∧ w' = w := by
  have hc : Lib.containsS zs x = hasB zs x := by
    rw [Bool.eq_iff_iff, hasB_iff]
    exact Lib.containsS_iff zs x
  rcases h with h | ⟨b, off, rfl, hcell⟩
  · have hz : zs = [] := List.map_eq_nil_iff.1 h
    subst hz
    refine (Tryz.slices_Contains_string_empty A c x w).mono ?_
    rintro e w' ⟨rfl, rfl⟩
    exact ⟨rfl, rfl⟩
  · refine (Tryz.slices_Contains_string b off zs.length c zs x w (Nat.le_refl _) (by omega) ?_).mono ?_
    · intro j hj
      have := hcell j (by rw [sv_len]; exact hj)
      rw [this, sv_get]
      simp [List.getD, hj]
    · rintro e w' ⟨rfl, rfl⟩
      refine ⟨?_, rfl⟩
      rw [List.take_length, hc]
end Go.Proofs.YtlonnkmfjijddaaGreatDoor
