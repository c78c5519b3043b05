/- Slices of slices of the call's own: kept beside others; equality; what a law asks of them. -/
import Derived.Test.YtenaadmifppphaaGreatDoorGGMark
namespace Go.Proofs.YtenaadmifppphaaGreatDoor
open Go.ChangeShapes Go.WideShapes Go.ChangeAt Go.RowKit
set_option linter.unusedVariables false
/-- A slice of slices in new memory, and whether all is well. -/
def GridOk (w : World) (rows : List (List Int)) (ok : Bool) (e : Ending) (w' : World) : Prop := ∃ v vs, e = .returned (.tuple #[v, .bool ok]) ∧ GG w' w.heap.size v rows vs ∧ Below w.heap.size w w'
/-- All its blocks lie below a number. -/
structure GLt (v : Value) (vs : List Value) (h : Nat) : Prop where
  out : ∀ b, v.ownBlock = some b → b < h
  own : ∀ (i : Nat) (u : Value), vs[i]? = some u → ∀ b, u.ownBlock = some b → b < h
theorem GG.glt {w : World} {B : Nat} {v : Value} {rows : List (List Int)} {vs : List Value} (h : GG w B v rows vs) : GLt v vs w.heap.size :=
  ⟨fun b hb => (h.outer b hb).2, fun i u hu b hb => (h.hi i u hu b hb).2⟩
theorem ne_of_out {lo hi : Nat} {u : Value} {row : Option Nat} (hr : ∀ k, row = some k → k < lo ∨ hi ≤ k) (hu : ∀ b, u.ownBlock = some b → lo ≤ b ∧ b < hi) : u.ownBlock = none ∨ u.ownBlock ≠ row := by
  cases e : u.ownBlock with
  | none => exact .inl rfl
  | some b =>
    refine .inr fun e2 => ?_
    have := hr b e2.symm
    have := hu b e
    omega
theorem GG.beside {w w' : World} {B h : Nat} {v : Value} {rows : List (List Int)} {vs : List Value} (g : GG w B v rows vs) (l : GLt v vs h) {row : Option Nat} (hg : w.grownBy w' row) (hr : ∀ k, row = some k → k < B ∨ h ≤ k) : GG w' B v rows vs :=
  ⟨World.ownsRow.kept g.out hg (by
      rcases ne_of_out (u := v) hr (fun b hb => ⟨(g.outer b hb).1, l.out b hb⟩) with e | e
      · exact .inl e
      · exact .inr fun e2 => e e2),
    fun i u r h1 h2 => (g.own i u r h1 h2).other hg (ne_of_out hr fun b hb => ⟨(g.hi i u h1 b hb).1, l.own i u h1 b hb⟩), g.apart, g.sep⟩
theorem ownsRow_out {lo hi : Nat} {w w' : World} {B : Nat} {T : TypeId} {v : Value} {n : Nat} {xs : List Value} (h : Out lo hi w w') (ho : w.ownsRow B T 1 v n xs) (hv : ∀ k, v.ownBlock = some k → k < lo ∨ hi ≤ k) : w'.ownsRow B T 1 v n xs := by
  obtain ⟨hl, h1 | ⟨g, cap, cur, rfl, hB, hh, r⟩⟩ := ho
  · exact ⟨hl, .inl h1⟩
  · exact ⟨hl, .inr ⟨g, cap, cur, rfl, hB, (h.block g (heap_lt hh) (hv g rfl)).trans hh, r⟩⟩
theorem GG.keep {lo hi : Nat} {w w' : World} {B h : Nat} {v : Value} {rows : List (List Int)} {vs : List Value} (g : GG w B v rows vs) (l : GLt v vs h) (ho : Out lo hi w w') (hr : h ≤ lo ∨ hi ≤ B) : GG w' B v rows vs :=
  ⟨ownsRow_out ho g.out (fun k hk => by have := (g.outer k hk).1; have := l.out k hk; omega),
   fun i u r h1 h2 => ho.own (g.own i u r h1 h2) (fun k hk => by have := (g.hi i u h1 k hk).1; have := l.own i u h1 k hk; omega), g.apart, g.sep⟩
end Go.Proofs.YtenaadmifppphaaGreatDoor
