/- Memory: blocks that are known whole, slices that read as a list, rows that a call owns. No program in sight. -/
import Derived.Test.YtenaadmifppphaaGreatDoorPlain
import Derived.ProofKit
import Derived.OpenShut
namespace Go.Proofs.YtenaadmifppphaaGreatDoor
open Go.RowKit

theorem cell_of {w : World} {g : Nat} {cs : Array Value} {T : TypeId} (h : w.heap[g]? = some (.cells cs T (0, 0))) (i : Nat) : w.cell? ⟨g, i, none⟩ = cs[i]? := cell_of_row w g i cs T (0, 0) h
theorem frozen_of {w : World} {g : Nat} {cs : Array Value} {T : TypeId} (h : w.heap[g]? = some (.cells cs T (0, 0))) (i : Nat) : w.frozen? ⟨g, i, none⟩ = false := by
  simp [World.frozen?, h]
theorem heap_lt {w : World} {g : Nat} {o : Obj} (h : w.heap[g]? = some o) : g < w.heap.size := by
  rcases Nat.lt_or_ge g w.heap.size with hlt | hge
  · exact hlt
  · rw [Array.getElem?_eq_none hge] at h; cases h
theorem heap_new (w : World) (o : Obj) (g : Nat) (hg : g = w.heap.size) : (w.alloc o).heap[g]? = some o := by
  subst hg; exact heap_alloc_new w o
theorem heap_old (w : World) (o : Obj) (g : Nat) (hg : g < w.heap.size) : (w.alloc o).heap[g]? = w.heap[g]? := Below.heap_alloc w o g hg
theorem heap_at (w : World) (o : Obj) (g : Nat) : (w.alloc o).heap[g]? = if g = w.heap.size then some o else w.heap[g]? := by
  show (w.heap.push o)[g]? = _
  rw [Array.getElem?_push]
theorem heap_hit (w : World) (o : Obj) (g : Nat) (h : g = w.heap.size) : (w.alloc o).heap[g]? = some o := by rw [heap_at, if_pos h]
theorem heap_miss (w : World) (o : Obj) (g : Nat) (h : g ≠ w.heap.size) : (w.alloc o).heap[g]? = w.heap[g]? := by rw [heap_at, if_neg h]
theorem heap_set (w : World) (g i : Nat) (cs : Array Value) (T : TypeId) (v : Value) (h : w.heap[g]? = some (.cells cs T (0, 0))) : (w.setCell ⟨g, i, none⟩ v).heap[g]? = some (.cells (cs.setIfInBounds i v) T (0, 0)) := by
  simp [World.setCell, Array.getElem?_modify, h]
theorem heap_far (w : World) (g : Nat) (p : Addr) (v : Value) (h : g ≠ p.block) : (w.setCell p v).heap[g]? = w.heap[g]? := Below.heap_setCell w p v g h
theorem ints_cell {w : World} {g : Nat} {xs : List Int} {T : TypeId} (h : w.heap[g]? = some (.cells (ints xs) T (0, 0))) (i : Nat) (hi : i < xs.length) : w.cell? ⟨g, i, none⟩ = some (.int .i64 (xs[i]'hi)) := by
  rw [cell_of h, get_ints, List.getElem?_eq_getElem hi]; rfl
/-- A call that only makes memory, behind a world that stands so to an elder one. -/
theorem Below_step {B : Nat} {a w w' : World} (h : Below B a w) (hb : Below w.heap.size w w') (hB : B ≤ w.heap.size) : Below B a w' := h.trans (hb.mono hB)
theorem Below_then {a w w' : World} (h : Below a.heap.size a w) (hb : Below w.heap.size w w') : Below a.heap.size a w' := h.trans (hb.mono h.size)
theorem Below_al {a w : World} (h : Below a.heap.size a w) (o : Obj) : Below a.heap.size a (w.alloc o) := h.alloc h.size o
theorem bcell {W w1 : World} (hb : Below W.heap.size W w1) : (∀ b o, b < W.heap.size → w1.cell? ⟨b, o, none⟩ = W.cell? ⟨b, o, none⟩) ∧ (∀ b o, b < W.heap.size → w1.frozen? ⟨b, o, none⟩ = W.frozen? ⟨b, o, none⟩) :=
  ⟨fun b o h => hb.cell (p := ⟨b, o, none⟩) h, fun b o h => hb.frozen (p := ⟨b, o, none⟩) h⟩
/-- Cells that are there stay, behind a call that only makes memory. -/
theorem keep_cell {w w' : World} {p : Addr} {u : Value} (h : w.cell? p = some u) (hb : Below w.heap.size w w') : w'.cell? p = some u := (hb.cell (World.block_lt_of_cell? w p h)).trans h
theorem held1 {B : Nat} {a w w' : World} {p : Addr} {u : Value} (hs : B ≤ w.heap.size) (h : w.cell? p = some u ∧ Below B a w) (hb : Below w.heap.size w w') : w'.cell? p = some u ∧ Below B a w' :=
  ⟨keep_cell h.1 hb, h.2.trans (hb.mono hs)⟩
theorem held2 {a w w' : World} {p q : Addr} {u v : Value} (h : w.cell? p = some u ∧ w.cell? q = some v ∧ Below a.heap.size a w) (hb : Below w.heap.size w w') : w'.cell? p = some u ∧ w'.cell? q = some v ∧ Below a.heap.size a w' :=
  ⟨keep_cell h.1 hb, keep_cell h.2.1 hb, h.2.2.trans (hb.mono h.2.2.size)⟩
end Go.Proofs.YtenaadmifppphaaGreatDoor
