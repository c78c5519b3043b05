/- Contracts of the laws' own helpers on slices of slices of numbers. -/
import Derived.Test.YtenaadmifppphaaGreatDoorInts
import Derived.Test.YtenaadmifppphaaGreatDoorGMem
namespace Go.Proofs.YtenaadmifppphaaGreatDoor
open Go.ChangeShapes Go.WideShapes Go.ChangeAt Go.RowKit
set_option linter.unusedVariables false

theorem Small.len40 {rows : List (List Int)} (h : Small rows) : rows.length ≤ 1099511627776 := by have := h.1; omega
theorem Small.row40 {rows : List (List Int)} (h : Small rows) {k : Nat} {row : List Int} (hk : rows[k]? = some row) : row.length ≤ 1099511627776 := by have := h.row hk; omega
theorem row_at {rows : List (List Int)} {k : Nat} (h : k < rows.length) : ∃ row, rows[k]? = some row := ⟨_, List.getElem?_eq_getElem h⟩
/-- A slice of slices of the call's own: the outer block g, the rows' values vs; no two rows in one block. -/
structure OwnG (w : World) (B g : Nat) (rows : List (List Int)) (vs : List Value) (rest : List Value) : Prop where
  blk : w.heap[g]? = some (.cells (vs ++ rest).toArray 36 (0, 0))
  low : B ≤ g
  len : vs.length = rows.length
  own : ∀ (i : Nat) (v : Value) (row : List Int), vs[i]? = some v → rows[i]? = some row → OwnI w (g + 1) 3 v row
  apart : ∀ (i j : Nat) (u v : Value), i < j → vs[i]? = some u → vs[j]? = some v → u.ownBlock = none ∨ u.ownBlock ≠ v.ownBlock
theorem OwnG.rd {w : World} {B g : Nat} {rows : List (List Int)} {vs rest : List Value} (h : OwnG w B g rows vs rest) : RdG w (some ⟨g, 0, none⟩) rows := by
  refine ⟨vs, h.len, .inr ⟨g, 0, rfl, fun i hi => ?_⟩, fun i v row h1 h2 => ?_⟩
  · rw [Nat.zero_add, cell_of h.blk]
    simp [List.getElem?_append_left hi]
  · obtain ⟨A, c, e, hr⟩ := (h.own i v row h1 h2).form
    exact ⟨A, c, e, hr⟩
theorem OwnG.below {w w' : World} {B g : Nat} {rows : List (List Int)} {vs rest : List Value} (h : OwnG w B g rows vs rest) (hb : Below w.heap.size w w') : OwnG w' B g rows vs rest :=
  ⟨heap_keepB h.blk hb, h.low, h.len, fun i v row h1 h2 => (h.own i v row h1 h2).below hb, h.apart⟩
theorem OwnG.snoc {w : World} {B g : Nat} {rows : List (List Int)} {vs rest : List Value} {z v : Value} {row : List Int} (h : OwnG w B g rows vs (z :: rest)) (hv : OwnI w (g + 1) 3 v row)
    (ha : ∀ (i : Nat) (u : Value), vs[i]? = some u → u.ownBlock = none ∨ u.ownBlock ≠ v.ownBlock) : OwnG (w.setCell ⟨g, vs.length, none⟩ v) B g (rows ++ [row]) (vs ++ [v]) rest where
  blk := by
    rw [heap_set _ _ _ _ _ _ h.blk]
    simp
  low := h.low
  len := by simp [h.len]
  own := by
    intro i u r h1 h2
    by_cases e : i < vs.length
    · rw [List.getElem?_append_left e] at h1
      rw [List.getElem?_append_left (by rw [← h.len]; exact e)] at h2
      exact ownsRow_setCell_below (h.own i u r h1 h2) (by simp) _
    · have : i = vs.length := by
        have := (List.getElem?_eq_some_iff.1 h1).1
        simp at this
        omega
      subst this
      have e2 : vs.length = rows.length := h.len
      rw [List.getElem?_append_right (Nat.le_refl _), Nat.sub_self] at h1
      rw [e2, List.getElem?_append_right (Nat.le_refl _), Nat.sub_self] at h2
      simp at h1 h2
      subst h1 h2
      exact ownsRow_setCell_below hv (by simp) _
  apart := by
    intro i j u r hij h1 h2
    have hj := (List.getElem?_eq_some_iff.1 h2).1
    simp at hj
    rw [List.getElem?_append_left (by omega)] at h1
    by_cases e : j < vs.length
    · rw [List.getElem?_append_left e] at h2
      exact h.apart i j u r hij h1 h2
    · have : j = vs.length := by omega
      subst this
      rw [List.getElem?_append_right (Nat.le_refl _), Nat.sub_self] at h2
      simp at h2
      subst h2
      exact ha i u h1
end Go.Proofs.YtenaadmifppphaaGreatDoor
