/- Unions and intersections of regions that are made cell by cell. No program in sight. -/
import Derived.Test.YtfmigkiliggdhaaArea
namespace Go.Proofs.Ytfmigkiliggdhaa
open Go.RowKit
theorem rowN_or (p q : Nat → Bool) (n : Nat) : rowN p n ||| rowN q n = rowN (fun i => p i || q i) n := by
  apply Nat.eq_of_testBit_eq
  intro i
  rw [Nat.testBit_or, rowN_bit, rowN_bit, rowN_bit]
  cases decide (i < n) <;> rfl
theorem rowN_and (p q : Nat → Bool) (n : Nat) : rowN p n &&& rowN q n = rowN (fun i => p i && q i) n := by
  apply Nat.eq_of_testBit_eq
  intro i
  rw [Nat.testBit_and, rowN_bit, rowN_bit, rowN_bit]
  cases decide (i < n) <;> cases p i <;> rfl
theorem rowN_small (p : Nat → Bool) : rowN p 20 < 2 ^ 63 := Nat.lt_trans (rowN_lt p 20) (by decide)
theorem rowV_or (p q : Nat → Bool) : bits BinOp.or IntKind.i64 (rowV p 20) (rowV q 20) = rowV (fun i => p i || q i) 20 := by
  rw [rowV_nat p 20 (by omega), rowV_nat q 20 (by omega), rowV_nat _ 20 (by omega), (bits_nat .i64 63 (by decide) wraps_i64 _ _ (rowN_small p) (rowN_small q)).2, rowN_or]
theorem rowV_and (p q : Nat → Bool) : bits BinOp.and IntKind.i64 (rowV p 20) (rowV q 20) = rowV (fun i => p i && q i) 20 := by
  rw [rowV_nat p 20 (by omega), rowV_nat q 20 (by omega), rowV_nat _ 20 (by omega), (bits_nat .i64 63 (by decide) wraps_i64 _ _ (rowN_small p) (rowN_small q)).1, rowN_and]
theorem regRows_getD (h : Int → Int → Bool) (y : Nat) (hy : y < 24) : (regRows h).getD y 0 = rowV (cellP h y) 20 := by
  rw [List.getD_eq_getElem?_getD, List.getElem?_eq_getElem (by rw [regRows_len]; exact hy)]
  simp [regRows, cellF]
theorem combL_or (h g : Int → Int → Bool) : combL 1 (regRows h) (regRows g) = regRows fun x y => h x y || g x y := by
  unfold combL
  apply List.map_congr_left
  intro y hy
  have hy : y < 24 := List.mem_range.1 hy
  rw [regRows_getD h y hy, regRows_getD g y hy]
  show bits BinOp.or IntKind.i64 _ _ = rowV _ 20
  rw [rowV_or]
  congr 1
  funext x
  simp only [cellP]
  cases inSh x y <;> simp
theorem combL_and (h g : Int → Int → Bool) : combL 2 (regRows h) (regRows g) = regRows fun x y => h x y && g x y := by
  unfold combL
  apply List.map_congr_left
  intro y hy
  have hy : y < 24 := List.mem_range.1 hy
  rw [regRows_getD h y hy, regRows_getD g y hy]
  show bits BinOp.and IntKind.i64 _ _ = rowV _ 20
  rw [rowV_and]
  congr 1
  funext x
  simp only [cellP]
  cases inSh x y <;> simp
theorem regOk_rows (h : Int → Int → Bool) : regOk (regRows h) = true := by
  refine regOk_yes (regRows_len h) fun y v hy hv => ?_
  have e : v = rowV (cellP h y) 20 := by
    rw [← regRows_getD h y hy, List.getD_eq_getElem?_getD, hv]
    rfl
  subst e
  have hlt := rowN_lt (cellP h y) 20
  rw [show (2 : Nat) ^ 20 = 1048576 from rfl] at hlt
  rw [rowV_nat _ 20 (by omega)]
  simp only [rowS, Bool.and_eq_true, decide_eq_true_eq, List.all_eq_true, List.mem_range]
  refine ⟨by omega, fun x hx => ?_⟩
  rw [hasB_nat _ _ (rowN_small _), rowN_bit]
  have hd : decide (x < 20) = true := by simpa using hx
  rw [hd, Bool.true_and]
  simp only [cellP, shP]
  cases inSh x y <;> simp
theorem area_none : areaN (regRows fun _ _ => false) 24 = 0 := by decide +kernel
/-- The two parts of a division have no cell in common and make up the shield. -/
theorem parts_or (f : Int → Int → Int) (p : Int) (hp : p = 0 ∨ p = 1) (hf : ∀ x y, f x y = 0 ∨ f x y = 1) : (regRows fun x y => (f x y == p) || (f x y == 1 - p)) = regRows fun _ _ => true := by
  apply regRows_congr
  intro x y _
  rcases hp with rfl | rfl <;> rcases hf x y with h | h <;> rw [h] <;> rfl
theorem parts_and (f : Int → Int → Int) (p : Int) (hp : p = 0 ∨ p = 1) (hf : ∀ x y, f x y = 0 ∨ f x y = 1) : (regRows fun x y => (f x y == p) && (f x y == 1 - p)) = regRows fun _ _ => false := by
  apply regRows_congr
  intro x y _
  rcases hp with rfl | rfl <;> rcases hf x y with h | h <;> rw [h] <;> rfl
end Go.Proofs.Ytfmigkiliggdhaa
