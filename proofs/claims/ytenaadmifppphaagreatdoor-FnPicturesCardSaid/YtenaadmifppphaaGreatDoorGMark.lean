/- Marks on a slice of slices of numbers of the call's own. -/
import Derived.Test.YtenaadmifppphaaGreatDoorGrids
namespace Go.Proofs.YtenaadmifppphaaGreatDoor
open Go.ChangeShapes Go.WideShapes Go.ChangeAt Go.RowKit
set_option linter.unusedVariables false
/-- Nothing has turned but blocks from lo on that lie below hi. -/
structure Out (lo hi : Nat) (w w' : World) : Prop where
  os : w'.os = w.os
  tape : w'.tape = w.tape
  output : w'.output = w.output
  size : w.heap.size ≤ w'.heap.size
  block : ∀ k, k < w.heap.size → (k < lo ∨ hi ≤ k) → w'.heap[k]? = w.heap[k]?
theorem Out.refl (lo hi : Nat) (w : World) : Out lo hi w w := ⟨rfl, rfl, rfl, Nat.le_refl _, fun _ _ _ => rfl⟩
theorem Out.grown {lo hi : Nat} {w w1 w2 : World} (h : Out lo hi w w1) {row : Option Nat} (hg : w1.grownBy w2 row) (hr : ∀ k, row = some k → lo ≤ k ∧ k < hi) : Out lo hi w w2 :=
  ⟨hg.os.trans h.os, hg.tape.trans h.tape, hg.output.trans h.output, Nat.le_trans h.size hg.size, fun k hk ho => (hg.block k (Nat.lt_of_lt_of_le hk h.size) (fun e => by have := hr k e.symm; omega)).trans (h.block k hk ho)⟩
theorem Out.below {lo hi B : Nat} {a w w' : World} (hb : Below B a w) (h : Out lo hi w w') (hB : B ≤ lo) (hs : B ≤ w.heap.size) : Below B a w' :=
  hb.trans ⟨h.os, h.tape, h.output, h.size, fun k hk => h.block k (by omega) (.inl (by omega))⟩
theorem Out.own {lo hi : Nat} {w w' : World} {B : Nat} {T : TypeId} {v : Value} {zs : List Int} (h : Out lo hi w w') (ho : OwnI w B T v zs) (hv : ∀ k, v.ownBlock = some k → k < lo ∨ hi ≤ k) : OwnI w' B T v zs := by
  obtain ⟨hl, h1 | ⟨g, cap, cur, rfl, hB, hh, r⟩⟩ := ho
  · exact ⟨hl, .inl h1⟩
  · exact ⟨hl, .inr ⟨g, cap, cur, rfl, hB, (h.block g (heap_lt hh) (hv g rfl)).trans hh, r⟩⟩
theorem Out.heap {lo hi : Nat} {w w' : World} {b : Nat} {o : Obj} (h : Out lo hi w w') (ho : w.heap[b]? = some o) (hv : b < lo ∨ hi ≤ b) : w'.heap[b]? = some o := (h.block b (heap_lt ho) hv).trans ho
theorem OwnG.out {lo hi : Nat} {w w' : World} {B g : Nat} {rows : List (List Int)} {vs rest : List Value} (ho : OwnG w B g rows vs rest) (h : Out lo hi w w') (hg : hi ≤ g) : OwnG w' B g rows vs rest :=
  ⟨h.heap ho.blk (.inr hg), ho.low, ho.len, fun i v row h1 h2 => h.own (ho.own i v row h1 h2) fun k hk => .inr (by have := (ho.own i v row h1 h2).lt k hk; omega), ho.apart⟩
theorem OwnG.hi {w : World} {B g : Nat} {rows : List (List Int)} {vs rest : List Value} (ho : OwnG w B g rows vs rest) : ∀ (i : Nat) (v : Value), vs[i]? = some v → ∀ b, v.ownBlock = some b → b < w.heap.size := fun i v hv b hb => by
  have hi := (List.getElem?_eq_some_iff.1 hv).1
  exact ((ho.own i v _ hv (List.getElem?_eq_getElem (by rw [← ho.len]; exact hi))).lt b hb).2
def totN (rows : List (List Int)) : Nat → Nat
  | 0 => 0
  | k + 1 => totN rows k + (rows.getD k []).length
theorem totN_step {rows : List (List Int)} {k : Nat} {row : List Int} (h : rows[k]? = some row) : totN rows (k + 1) = totN rows k + row.length := by
  rw [totN, List.getD_eq_getElem?_getD, h]; rfl
theorem totN_le {rows : List (List Int)} (h : Small rows) (k : Nat) (hk : k ≤ rows.length) : totN rows k ≤ 1048576 * k := by
  induction k with
  | zero => exact Nat.le_refl _
  | succ k ih =>
    obtain ⟨row, hr⟩ := row_at (rows := rows) (k := k) (by omega)
    rw [totN_step hr]
    have := ih (by omega)
    have := h.row hr
    omega
/-- Rows of the call's own whose contents may have turned, their lengths not. -/
def RowsAny (w : World) (g : Nat) (rows : List (List Int)) (vs : List Value) : Prop :=
  ∀ (i : Nat) (v : Value) (row : List Int), vs[i]? = some v → rows[i]? = some row → ∃ row' : List Int, row'.length = row.length ∧ OwnI w (g + 1) 3 v row'
end Go.Proofs.YtenaadmifppphaaGreatDoor
