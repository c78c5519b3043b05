/- An argument that is a slice of slices of numbers, opened. -/
import Derived.Test.YtlonnkmfjijddaaGreatDoorOpen
import Derived.Test.YtlonnkmfjijddaaGreatDoorGMem
import Derived.Deep.Slices
namespace Go.Proofs.YtlonnkmfjijddaaGreatDoor
open Go.ChangeShapes Go.WideShapes Go.ChangeAt Go.RowKit Go.Joins Go.Deep
set_option linter.unusedVariables false
set_option maxRecDepth 100000
section
variable {H : Type} {enc : TypeId × Value → H} {w : World} {base : Nat} {spare : Nat → Bool} {held : Bool} {r : Reach} {b0 : Nat} {v : Value} {d : DataW H} {p : List MemPlace}
theorem spot_none {w : World} {a : Addr} {u : Value} (h : w.cell? a = some u) : a.spot = none := by
  simp only [World.cell?] at h
  split at h
  · split at h
    · cases h
    · next hh => simpa using hh
  · cases h
theorem add_at (b off i : Nat) : (Addr.add ⟨b, off, none⟩ i : Addr) = ⟨b, off + i, none⟩ := by
  unfold Addr.add
  split
  · next h => subst h; rfl
  · rfl
theorem okWide_slice {P : Program} {t e : TypeId} (ht : P.underlying t = some (.slice e)) (hv : Value.okWide P w r b0 t v) : ∃ A n c, v = .slice A n c := by
  simp only [Value.okWide, ht] at hv
  cases v <;> simp_all [Cell.okWide, Cell.ok]
theorem rows_of (n : Nat) (f : Nat → List Int) (P : Nat → List Int → Prop) (h : ∀ i, i < n → P i (f i)) : ∀ (i : Nat) (row : List Int), ((List.range n).map f)[i]? = some row → P i row := by
  intro i row hi
  rw [List.getElem?_map] at hi
  cases e : (List.range n)[i]? with
  | none => rw [e] at hi; cases hi
  | some j =>
    rw [e] at hi
    obtain ⟨hlt, hj⟩ := List.getElem?_eq_some_iff.1 e
    simp at hj hlt hi
    subst hj hi
    exact h _ hlt
end
end Go.Proofs.YtlonnkmfjijddaaGreatDoor
