/- Memory, more: a number read by its place; bits of rows as natural numbers. No program in sight. -/
import Derived.Test.YtenaadmifppphaaGreatDoorMem2
import Derived.Laws.BitsLemmas
namespace Go.Proofs.YtenaadmifppphaaGreatDoor
open Go.RowKit
theorem RdI.atv {w : World} {A : Option Addr} {zs : List Int} (h : RdI w A zs) {k : Nat} {v : Int} (hv : zs[k]? = some v) :
    ∃ b off, A = some ⟨b, off, none⟩ ∧ w.cell? ⟨b, off + k, none⟩ = some (.int .i64 v) ∧ b < w.heap.size := by
  obtain ⟨hk, rfl⟩ := List.getElem?_eq_some_iff.1 hv
  exact h.at_ hk
end Go.Proofs.YtenaadmifppphaaGreatDoor
