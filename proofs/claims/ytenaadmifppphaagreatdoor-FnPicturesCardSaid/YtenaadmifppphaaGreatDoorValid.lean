/- Contracts: which regions are valid. -/
import Derived.Test.YtenaadmifppphaaGreatDoorRegion4
import Derived.Test.YtenaadmifppphaaGreatDoorMem3
import Derived.Test.YtenaadmifppphaaGreatDoorBits
namespace Go.Proofs.YtenaadmifppphaaGreatDoor
open Go.ChangeShapes Go.WideShapes Go.ChangeAt Go.RowKit
set_option linter.unusedVariables false

def shP (y : Nat) (x : Nat) : Bool := inSh x y
theorem cellP_true (y : Nat) : cellP (fun _ _ => true) y = shP y := by
  funext x
  simp [cellP, shP]
def regOk (zs : List Int) : Bool := decide (zs.length = 24) && (List.range 24).all fun y => rowS (zs.getD y 0) (shP y)
theorem regOk_len {zs : List Int} (h : ¬ zs.length = 24) : regOk zs = false := by simp [regOk, h]
theorem regOk_yes {zs : List Int} (hl : zs.length = 24) (h : ∀ (y : Nat) (v : Int), y < 24 → zs[y]? = some v → rowS v (shP y) = true) : regOk zs = true := by
  simp only [regOk, hl, decide_true, Bool.true_and, List.all_eq_true, List.mem_range]
  intro y hy
  refine h y _ hy ?_
  rw [List.getD_eq_getElem?_getD, List.getElem?_eq_getElem (by omega)]
  rfl
theorem regOk_no {zs : List Int} {y : Nat} {v : Int} (hy : y < 24) (hv : zs[y]? = some v) (h : rowS v (shP y) = false) : regOk zs = false := by
  have : (List.range 24).all (fun y => rowS (zs.getD y 0) (shP y)) = false := by
    rw [List.all_eq_false]
    exact ⟨y, List.mem_range.2 hy, by rw [List.getD_eq_getElem?_getD, hv]; simpa using h⟩
  unfold regOk
  rw [this, Bool.and_false]
theorem l9Has_any (A : Option Addr) (c : Nat) (zs : List Int) (j k : Nat) (v : Int) (w : World) (h : RdI w A zs) (hj : j < 20) (hk : k < 24) (hv : zs[k]? = some v) (h0 : 0 ≤ v) (h1 : v ≤ 1048575) :
    Calls Tryz.prog 50 #[.agg #[.slice A 24 c], .int .i64 j, .int .i64 k] w fun e w' => e = .returned (.bool (hasB v j)) ∧ Below w.heap.size w w' := by
  obtain ⟨b, off, rfl, hc, hb⟩ := h.atv hv
  clear hv h
  have i1 : (j : Int) < 20 := by omega
  have i2 : (k : Int) < 24 := by omega
  go_enter Tryz.func50, Tryz.ntmps50
  go_wp2_with (first | (go_at_call 52; refine (l1In_any _ _ _ _).mono ?_; rintro e w' ⟨rfl, rfl⟩) | fail)
  go_ret
  exact ⟨rfl, by (repeat (first | exact Below.refl _ _ | assumption | refine Below_al ?_ _ | refine Below.drew ?_ | refine Below_then ?_ (by assumption) | refine Below.setCell ?_ (by first | omega | (simp; done) | (simp; omega)) _))⟩
end Go.Proofs.YtenaadmifppphaaGreatDoor
