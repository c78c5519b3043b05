/- Contracts: IsValidRegister of the reference. -/
import Derived.Test.YtgdghkdljfcggaaReg2
namespace Go.Proofs.Ytgdghkdljfcggaa
open Go.ChangeShapes Go.WideShapes Go.ChangeAt Go.RowKit
theorem specIsValidRegister_any (A : Option Addr) (c : Nat) (rows : List GrantD) (w : World) (hr : RdR 18 w A (gcs rows)) (hl : rows.length ≤ 1048576) (hs : ∀ g ∈ rows, g.s.size ≤ maxLen) :
    Calls Try.prog 12 #[.agg #[.slice A rows.length c]] w fun e w' => e = .returned (.bool (regOk rows)) ∧ Below w.heap.size w w' := by
  have K := fun (w' : World) (hb : Below w.heap.size w w') => l16Good_any A c rows w' (hr.below hb) hl hs
  generalize regOk rows = x at *
  have K' := Lib.hid K
  clear K hr hs
  go_enter Try.func12, Try.ntmps12
  go_wp2_with fail
  refine (K'.out _ (by (repeat (first | exact Below.refl _ _ | assumption | refine Below_al ?_ _ | refine Below.drew ?_ | refine Below_then ?_ (by assumption) | refine Below.setCell ?_ (by first | omega | (simp; done) | (simp; omega)) _)))).mono ?_
  rintro e w1 ⟨rfl, hb1⟩
  go_wp2
  go_ret
  exact ⟨rfl, by (repeat (first | exact Below.refl _ _ | assumption | refine Below_al ?_ _ | refine Below.drew ?_ | refine Below_then ?_ (by assumption) | refine Below.setCell ?_ (by first | omega | (simp; done) | (simp; omega)) _))⟩
end Go.Proofs.Ytgdghkdljfcggaa
