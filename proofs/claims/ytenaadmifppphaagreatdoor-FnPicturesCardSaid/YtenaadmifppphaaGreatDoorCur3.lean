/- What the draws of the geometry give. -/
import Derived.Test.YtenaadmifppphaaGreatDoorCur2
namespace Go.Proofs.YtenaadmifppphaaGreatDoor
open Go.ChangeShapes Go.WideShapes Go.ChangeAt Go.RowKit
set_option linter.unusedVariables false
set_option linter.unusedSimpArgs false
/-- n bytes lie at A. -/
def RdU (w : World) (A : Option Addr) (n : Nat) : Prop :=
  n = 0 ∨ ∃ cb off, A = some ⟨cb, off, none⟩ ∧ ∀ i, i < n → ∃ z : Int, w.cell? ⟨cb, off + i, none⟩ = some (.int .u8 z) ∧ 0 ≤ z ∧ z ≤ 255
theorem RdU.below {w w' : World} {A : Option Addr} {n : Nat} (h : RdU w A n) (hb : Below w.heap.size w w') : RdU w' A n := by
  rcases h with h | ⟨cb, off, hA, h1⟩
  · exact .inl h
  · refine .inr ⟨cb, off, hA, fun i hi => ?_⟩
    obtain ⟨z, h2, h3⟩ := h1 i hi
    exact ⟨z, keep_cell h2 hb, h3⟩
theorem curStart {w w' : World} {A : Option Addr} {n c b : Nat} (h : RdU w A n) (hn : n ≤ 65536) (hb : w'.heap[b]? = some (.cells #[.slice A n c, .int .i64 0, .int .u64 0] 44 (0, 0))) (hB : Below w.heap.size w w') (hge : w.heap.size ≤ b) : Cur w' b 0 := by
  refine ⟨A, n, c, 0, 0, hb, Int.le_refl _, by simp, hn, ?_⟩
  rcases h with h | ⟨cb, off, hA, h1⟩
  · exact .inl h
  · by_cases h0 : n = 0
    · exact .inl h0
    · obtain ⟨z, h2, -⟩ := h1 0 (by omega)
      have hl := World.block_lt_of_cell? w _ h2
      refine .inr ⟨cb, off, hA, by dsimp only at hl; omega, fun i hi => ?_⟩
      obtain ⟨z, h3, h4⟩ := h1 i hi
      exact ⟨z, keep_cell h3 hB, h4⟩
theorem drawEnd {w w1 w2 : World} {b : Nat} (h : w1.grownBy w2 (some b)) (hb : Below w.heap.size w w1) (hge : w.heap.size ≤ b) : Below w.heap.size w w2 :=
  ⟨h.os.trans hb.os, h.tape.trans hb.tape, h.output.trans hb.output, Nat.le_trans hb.size h.size, fun k hk => (h.block k (by have := hb.size; omega) (fun e => by injection e with e; omega)).trans (hb.block k hk)⟩
def Draw1 (w : World) (ok : Int → Prop) (e : Ending) (w' : World) : Prop := ∃ x, e = .returned (.int .i64 x) ∧ ok x ∧ Below w.heap.size w w'
def Draw2 (w : World) (ok : Int → Int → Prop) (e : Ending) (w' : World) : Prop := ∃ x y, e = .returned (.tuple #[.int .i64 x, .int .i64 y]) ∧ ok x y ∧ Below w.heap.size w w'
def DrawF (w : World) (e : Ending) (w' : World) : Prop := ∃ d l p q : Int, e = .returned (.agg #[.int .i64 d, .int .i64 l, .int .i64 p, .int .i64 q]) ∧ Below w.heap.size w w'
def DrawF1 (w : World) (ok : Int → Prop) (e : Ending) (w' : World) : Prop := ∃ d l p q x : Int, e = .returned (.tuple #[.agg #[.int .i64 d, .int .i64 l, .int .i64 p, .int .i64 q], .int .i64 x]) ∧ ok x ∧ Below w.heap.size w w'
def DrawF2 (w : World) (ok : Int → Int → Prop) (e : Ending) (w' : World) : Prop := ∃ d l p q x y : Int, e = .returned (.tuple #[.agg #[.int .i64 d, .int .i64 l, .int .i64 p, .int .i64 q], .int .i64 x, .int .i64 y]) ∧ ok x y ∧ Below w.heap.size w w'











end Go.Proofs.YtenaadmifppphaaGreatDoor
