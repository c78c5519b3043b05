/- Contracts for laws over regions that are handed in. -/
import Derived.Test.YticfcbfoieklgaaRegs
import Derived.Test.YticfcbfoieklgaaOpen
namespace Go.Proofs.Yticfcbfoieklgaa
open Go.ChangeShapes Go.WideShapes Go.ChangeAt Go.RowKit
set_option linter.unusedVariables false
theorem eqRegion_refl (A A' : Option Addr) (c c' : Nat) (xs : List Int) (w : World) (h1 : RdI w A xs) (h2 : RdI w A' xs) (hx : xs.length ≤ 1099511627776) :
    Calls Try.prog 25 #[.agg #[.slice A xs.length c], .agg #[.slice A' xs.length c']] w fun e w' => e = .returned (.bool true) ∧ Below w.heap.size w w' :=
  (eqRegion_any A A' c c' xs xs w h1 h2 hx hx).mono fun _ _ ⟨he, hw⟩ => ⟨by rw [he]; simp, hw⟩
theorem keepA {w' w'' : World} {p q : Addr} {u v : Value} {A : Option Addr} {zs : List Int} {b : World} (h : w'.cell? p = some u ∧ w'.cell? q = some v ∧ RdI w' A zs ∧ Below b.heap.size b w') (hb : Below w'.heap.size w' w'') :
    w''.cell? p = some u ∧ w''.cell? q = some v ∧ RdI w'' A zs ∧ Below b.heap.size b w'' :=
  ⟨keep_cell h.1 hb, keep_cell h.2.1 hb, h.2.2.1.below hb, Below_then h.2.2.2 hb⟩
end Go.Proofs.Yticfcbfoieklgaa
