/- Contracts: regions that are made cell by cell, by the program (a closure decides) and by the reference. -/
import Derived.Test.YtenaadmifppphaaGreatDoorRegs
namespace Go.Proofs.YtenaadmifppphaaGreatDoor
open Go.ChangeShapes Go.WideShapes Go.ChangeAt Go.RowKit

theorem make24 (w : World) : (Instr.makeSlice 36 (.int .i64 24) (.int .i64 24)).run Tryz.prog w = .ok (.slice (some ⟨w.heap.size, 0, none⟩) 24 24) (w.alloc (.cells (ints (List.replicate 24 0)) 3)) := by kernel_rfl
/-- A region being made: its row is block R; the blocks of L stand as they were laid; below the first of the call's own nothing has turned. -/
structure RegSt (w : World) (R : Nat) (L : List (Nat × Obj)) (rows : List Int) (wr : World) : Prop where
  row : wr.heap[R]? = some (.cells (ints rows) 3 (0, 0))
  keep : ∀ p ∈ L, wr.heap[p.1]? = some p.2
  below : Below w.heap.size w wr
theorem RegSt.step {w wr w1 : World} {R : Nat} {L : List (Nat × Obj)} {rows : List Int} (h : RegSt w R L rows wr) (hb : Below wr.heap.size wr w1) : RegSt w R L rows w1 where
  row := (hb.block _ (heap_lt h.row)).trans h.row
  keep := fun p hp => (hb.block _ (heap_lt (h.keep p hp))).trans (h.keep p hp)
  below := Below_then h.below hb
theorem RegSt.grown {w wr w1 : World} {R : Nat} {L : List (Nat × Obj)} {rows rows' : List Int} (h : RegSt w R L rows wr) (hR : w.heap.size ≤ R) (hL : ∀ p ∈ L, p.1 ≠ R) (hg : wr.grownBy w1 (some R)) (hr : w1.heap[R]? = some (.cells (ints rows') 3 (0, 0))) : RegSt w R L rows' w1 where
  row := hr
  keep := fun p hp => (hg.block _ (heap_lt (h.keep p hp)) (by intro e; injection e with e; exact hL p hp e)).trans (h.keep p hp)
  below := h.below.grown hg h.below.size (fun k hk => by injection hk with hk; omega)
theorem RegSt.set {w wr : World} {R : Nat} {L : List (Nat × Obj)} {rows : List Int} (h : RegSt w R L rows wr) (hR : w.heap.size ≤ R) (hL : ∀ p ∈ L, p.1 ≠ R) (k : Nat) (v : Int) : RegSt w R L (rows.set k v) (wr.setCell ⟨R, k, none⟩ (.int .i64 v)) :=
  h.grown hR hL (grownBy_set (World.grownBy.refl _ _) _ _) (by rw [heap_set _ _ _ _ _ _ h.row, set_ints])
theorem RegSt.drew {w wr : World} {R : Nat} {L : List (Nat × Obj)} {rows : List Int} (h : RegSt w R L rows wr) : RegSt w R L rows wr.drew := ⟨h.row, h.keep, h.below.drew⟩
/-- A region in new memory. -/
def RegPost (w : World) (zs : List Int) (e : Ending) (w' : World) : Prop := ToRegPost w 3 zs e w'
def RegOk (w : World) (zs : List Int) (ok : Bool) (e : Ending) (w' : World) : Prop :=
  ∃ v, e = .returned (.tuple #[.agg #[v], .bool ok]) ∧ OwnI w' w.heap.size 3 v zs ∧ Below w.heap.size w w'

end Go.Proofs.YtenaadmifppphaaGreatDoor
