/- Counting the numbers below n with a property. No program in sight. -/
import Derived.Test.YtlbggefccgpgaaaPlain
namespace Go.Proofs.Ytlbggefccgpgaaa
open Go.RowKit
/-- How many numbers below n have a property, and how many pairs. -/
def cntR (p : Nat → Bool) : Nat → Nat
  | 0 => 0
  | j + 1 => cntR p j + (if p j then 1 else 0)
def cntG (p : Nat → Nat → Bool) (n : Nat) : Nat → Nat
  | 0 => 0
  | k + 1 => cntG p n k + cntR (p k) n
theorem cntR_le (p : Nat → Bool) (n : Nat) : cntR p n ≤ n := by
  induction n with
  | zero => exact Nat.le_refl _
  | succ n ih => rw [cntR]; split <;> omega
theorem cntG_le (p : Nat → Nat → Bool) (n k : Nat) (hn : n ≤ 24) : cntG p n k ≤ 24 * k := by
  induction k with
  | zero => exact Nat.le_refl _
  | succ k ih => rw [cntG]; have := cntR_le (p k) n; omega
theorem cntR_congr {p q : Nat → Bool} (n : Nat) (h : ∀ i, i < n → p i = q i) : cntR p n = cntR q n := by
  induction n with
  | zero => rfl
  | succ n ih => rw [cntR, cntR, ih fun i hi => h i (by omega), h n (by omega)]
theorem cntG_congr {p q : Nat → Nat → Bool} (n k : Nat) (h : ∀ i, i < k → ∀ j, j < n → p i j = q i j) : cntG p n k = cntG q n k := by
  induction k with
  | zero => rfl
  | succ k ih => rw [cntG, cntG, ih fun i hi => h i (by omega), cntR_congr n (h k (by omega))]
end Go.Proofs.Ytlbggefccgpgaaa
