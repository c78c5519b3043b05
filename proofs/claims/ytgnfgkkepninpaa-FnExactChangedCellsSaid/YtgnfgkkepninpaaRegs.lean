/- Contracts of the laws' own helpers on regions. -/
import Derived.Test.YtgnfgkkepninpaaInts
namespace Go.Proofs.Ytgnfgkkepninpaa
open Go.ChangeShapes Go.WideShapes Go.ChangeAt Go.RowKit

def ToRegPost (w : World) (T : TypeId) (zs : List Int) (e : Ending) (w' : World) : Prop :=
  ∃ v, e = .returned (.agg #[v]) ∧ OwnI w' w.heap.size T v zs ∧ Below w.heap.size w w'
theorem eqRegion_any (A A' : Option Addr) (c c' : Nat) (xs ys : List Int) (w : World) (h1 : RdI w A xs) (h2 : RdI w A' ys) (hx : xs.length ≤ 1099511627776) (hy : ys.length ≤ 1099511627776) :
    Calls Try.prog 26 #[.agg #[.slice A xs.length c], .agg #[.slice A' ys.length c']] w fun e w' => e = .returned (.bool (decide (xs = ys))) ∧ Below w.heap.size w w' := by
  obtain ⟨b, hb⟩ : ∃ b, b = decide (xs = ys) := ⟨_, rfl⟩
  have H := fun w' (hr : Below w.heap.size w w') => eqIntS_any A A' c c' xs ys w' (h1.below hr) (h2.below hr) hx hy
  rw [← hb] at H ⊢
  have H' := Lib.hid H
  clear H hb h1 h2
  cases b
  all_goals
    go_enter Try.func26, Try.ntmps26
    go_wp2_with (first | (go_at_call 58; refine (H'.out _ (by (repeat (first | exact Below.refl _ _ | assumption | refine Below_al ?_ _ | refine Below.drew ?_ | refine Below_then ?_ (by assumption) | refine Below.setCell ?_ (by first | omega | (simp; done) | (simp; omega)) _)))).mono ?_; rintro e w1 ⟨rfl, hb1⟩) | fail)
    go_ret
    exact ⟨rfl, by (repeat (first | exact Below.refl _ _ | assumption | refine Below_al ?_ _ | refine Below.drew ?_ | refine Below_then ?_ (by assumption) | refine Below.setCell ?_ (by first | omega | (simp; done) | (simp; omega)) _))⟩
theorem eqRegion_own {B B' : Nat} {v v' : Value} (xs ys : List Int) (w : World) (h1 : OwnI w B 3 v xs) (h2 : OwnI w B' 3 v' ys) (hx : xs.length ≤ 1099511627776) (hy : ys.length ≤ 1099511627776) :
    Calls Try.prog 26 #[.agg #[v], .agg #[v']] w fun e w' => e = .returned (.bool (decide (xs = ys))) ∧ Below w.heap.size w w' := by
  obtain ⟨A, c, rfl, hr⟩ := h1.form
  obtain ⟨A', c', rfl, hr'⟩ := h2.form
  exact eqRegion_any A A' c c' xs ys w hr hr' hx hy
theorem eqRegion_same {B B' : Nat} {v v' : Value} (xs : List Int) (w : World) (h1 : OwnI w B 3 v xs) (h2 : OwnI w B' 3 v' xs) (hx : xs.length ≤ 1099511627776) :
    Calls Try.prog 26 #[.agg #[v], .agg #[v']] w fun e w' => e = .returned (.bool true) ∧ Below w.heap.size w w' :=
  (eqRegion_own xs xs w h1 h2 hx hx).mono fun _ _ ⟨he, hw⟩ => ⟨by rw [he]; simp, hw⟩
theorem markRegion_any (B : Nat) (v : Value) (zs : List Int) (k0 : Int) (w : World) (h : OwnI w B 3 v zs) (hx : zs.length ≤ 1099511627776) (hk0 : 0 ≤ k0) (hk1 : k0 ≤ 1099511627776) :
    Calls Try.prog 28 #[.agg #[v], .int .i64 k0] w (MarkPost w B v zs k0) := by
  have H := fun w' (hr : Below w.heap.size w w') => markIntS_any B v zs k0 w' (h.below hr) hx hk0 hk1
  have H' := Lib.hid H
  obtain ⟨A, c, rfl, _⟩ := h.form
  clear H h
  go_enter Try.func28, Try.ntmps28
  go_wp2_with fail
  refine (H'.out _ (by (repeat (first | exact Below.refl _ _ | assumption | refine Below_al ?_ _ | refine Below.drew ?_ | refine Below_then ?_ (by assumption) | refine Below.setCell ?_ (by first | omega | (simp; done) | (simp; omega)) _)))).mono ?_
  rintro e w1 ⟨rfl, ho, hg⟩
  go_wp2
  go_ret
  exact ⟨rfl, ho, below_grownBy (by (repeat (first | exact Below.refl _ _ | assumption | refine Below_al ?_ _ | refine Below.drew ?_ | refine Below_then ?_ (by assumption) | refine Below.setCell ?_ (by first | omega | (simp; done) | (simp; omega)) _))) hg⟩
theorem heldRegion_any (A : Option Addr) (c : Nat) (zs : List Int) (k0 : Int) (w : World) (h : RdI w A zs) (hx : zs.length ≤ 1099511627776) (hk0 : 0 ≤ k0) (hk1 : k0 ≤ 1099511627776) :
    Calls Try.prog 29 #[.agg #[.slice A zs.length c], .int .i64 k0] w fun e w' => e = .returned (.int .i64 (heldR zs k0)) ∧ Below w.heap.size w w' := by
  have hbd : -1 ≤ heldR zs k0 ∧ heldR zs k0 ≤ 2199023255552 := by unfold heldR; split <;> omega
  have H := fun w' (hr : Below w.heap.size w w') => heldIntS_any A c zs k0 w' (h.below hr) hx hk0 hk1
  generalize heldR zs k0 = z at *
  have H' := Lib.hid H
  clear H h
  by_cases hz : z < 0
  · obtain rfl : z = -1 := by omega
    go_enter Try.func29, Try.ntmps29
    go_wp2_with (first | (go_at_call 63; refine (H'.out _ (by (repeat (first | exact Below.refl _ _ | assumption | refine Below_al ?_ _ | refine Below.drew ?_ | refine Below_then ?_ (by assumption) | refine Below.setCell ?_ (by first | omega | (simp; done) | (simp; omega)) _)))).mono ?_; rintro e w1 ⟨rfl, hb1⟩) | fail)
    go_ret
    exact ⟨rfl, by (repeat (first | exact Below.refl _ _ | assumption | refine Below_al ?_ _ | refine Below.drew ?_ | refine Below_then ?_ (by assumption) | refine Below.setCell ?_ (by first | omega | (simp; done) | (simp; omega)) _))⟩
  · go_enter Try.func29, Try.ntmps29
    go_wp2_with (first | (go_at_call 63; refine (H'.out _ (by (repeat (first | exact Below.refl _ _ | assumption | refine Below_al ?_ _ | refine Below.drew ?_ | refine Below_then ?_ (by assumption) | refine Below.setCell ?_ (by first | omega | (simp; done) | (simp; omega)) _)))).mono ?_; rintro e w1 ⟨rfl, hb1⟩) | fail)
    go_ret
    exact ⟨rfl, by (repeat (first | exact Below.refl _ _ | assumption | refine Below_al ?_ _ | refine Below.drew ?_ | refine Below_then ?_ (by assumption) | refine Below.setCell ?_ (by first | omega | (simp; done) | (simp; omega)) _))⟩
theorem heldRegion_own {B : Nat} {v : Value} (zs : List Int) (k0 : Int) (w : World) (h : OwnI w B 3 v zs) (hx : zs.length ≤ 1099511627776) (hk0 : 0 ≤ k0) (hk1 : k0 ≤ 1099511627776) :
    Calls Try.prog 29 #[.agg #[v], .int .i64 k0] w fun e w' => e = .returned (.int .i64 (heldR zs k0)) ∧ Below w.heap.size w w' := by
  obtain ⟨A, c, rfl, hr⟩ := h.form
  exact heldRegion_any A c zs k0 w hr hx hk0 hk1
theorem heldRegion_marks {B : Nat} {v : Value} (n : Nat) (k0 : Int) (w : World) (h : OwnI w B 3 v (marks k0 n)) (hx : n ≤ 1099511627776) (hk0 : 0 ≤ k0) (hk1 : k0 ≤ 1099511627776) :
    Calls Try.prog 29 #[.agg #[v], .int .i64 k0] w fun e w' => e = .returned (.int .i64 (k0 + n)) ∧ Below w.heap.size w w' :=
  (heldRegion_own (marks k0 n) k0 w h (by rw [marks_len]; exact hx) hk0 hk1).mono fun _ _ ⟨he, hw⟩ => ⟨by rw [he, heldR_marks], hw⟩
end Go.Proofs.Ytgnfgkkepninpaa
