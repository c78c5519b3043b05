/- Memory: a slice of slices of numbers. No program in sight. -/
import Derived.Test.YtenaadmifppphaaGreatDoorMem3
namespace Go.Proofs.YtenaadmifppphaaGreatDoor
open Go.RowKit

/-- The slice at address A holds the rows. -/
def RdG (w : World) (A : Option Addr) (rows : List (List Int)) : Prop :=
  ∃ hs : List Value, hs.length = rows.length ∧ Rd w A hs ∧ ∀ (i : Nat) (v : Value) (row : List Int), hs[i]? = some v → rows[i]? = some row → ∃ A' c', v = .slice A' row.length c' ∧ RdI w A' row
theorem RdG.nil (w : World) (A : Option Addr) : RdG w A [] := ⟨[], rfl, .inl rfl, fun i v row h => by simp at h⟩
theorem RdG.below {w w' : World} {A : Option Addr} {rows : List (List Int)} (h : RdG w A rows) (hb : Below w.heap.size w w') : RdG w' A rows := by
  obtain ⟨hs, hl, hr, hv⟩ := h
  refine ⟨hs, hl, hr.below hb, fun i v row h1 h2 => ?_⟩
  obtain ⟨A', c', e, h3⟩ := hv i v row h1 h2
  exact ⟨A', c', e, h3.below hb⟩
theorem RdG.alloc {w : World} {A : Option Addr} {rows : List (List Int)} (h : RdG w A rows) (o : Obj) : RdG (w.alloc o) A rows := h.below (Below_al (Below.refl _ _) o)
theorem RdG.atv {w : World} {A : Option Addr} {rows : List (List Int)} (h : RdG w A rows) {k : Nat} {row : List Int} (hk : rows[k]? = some row) :
    ∃ b off A' c', A = some ⟨b, off, none⟩ ∧ w.cell? ⟨b, off + k, none⟩ = some (.slice A' row.length c') ∧ RdI w A' row ∧ b < w.heap.size := by
  obtain ⟨hs, hl, hr, hv⟩ := h
  have hlt : k < hs.length := by rw [hl]; exact (List.getElem?_eq_some_iff.1 hk).1
  obtain ⟨A', c', e, h3⟩ := hv k _ row (List.getElem?_eq_getElem hlt) hk
  rcases hr with h0 | ⟨b, off, hA, hc⟩
  · rw [h0] at hlt; simp at hlt
  · have h1 := hc k hlt
    rw [e] at h1
    exact ⟨b, off, A', c', hA, h1, h3, World.block_lt_of_cell? w _ h1⟩
/-- All rows have at most so many numbers, and there are at most so many rows. -/
def Small (rows : List (List Int)) : Prop := rows.length ≤ 1048576 ∧ ∀ row ∈ rows, row.length ≤ 1048576
theorem Small.len {rows : List (List Int)} (h : Small rows) : rows.length ≤ 1048576 := h.1
theorem Small.row {rows : List (List Int)} (h : Small rows) {k : Nat} {row : List Int} (hk : rows[k]? = some row) : row.length ≤ 1048576 := h.2 row (List.mem_of_getElem? hk)
end Go.Proofs.YtenaadmifppphaaGreatDoor
