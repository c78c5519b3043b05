/- Plain arithmetic and lists: cells of the shield, rows of a region, offsets of lines. No program in sight. -/
import Derived.WalkKit
import Derived.Lib.Hide
namespace Go.Proofs.YtenaadmifppphaaGreatDoor
open Go.RowKit

/-! ### Cells of the shield -/
def inCell (x y : Int) : Bool := decide (0 ≤ x ∧ x ≤ 19 ∧ 0 ≤ y ∧ y ≤ 23)
def inOval (x y : Int) : Bool := decide (576*(2*x-19)*(2*x-19)+400*(2*y-23)*(2*y-23) ≤ 230400)
def inSh (x y : Int) : Bool := inCell x y && (decide (y < 12) || inOval x y)
theorem inSh_cell {x y : Int} (h : inSh x y = true) : 0 ≤ x ∧ x ≤ 19 ∧ 0 ≤ y ∧ y ≤ 23 := by
  unfold inSh inCell at h
  rw [Bool.and_eq_true] at h
  exact of_decide_eq_true h.1
theorem sq_bd (a : Int) (h1 : -23 ≤ a) (h2 : a ≤ 23) : 0 ≤ a * a ∧ a * a ≤ 529 := by
  have h3 : ((a.natAbs * a.natAbs : Nat) : Int) = a * a := Int.natAbs_mul_self
  have h4 : a.natAbs * a.natAbs ≤ 23 * 23 := Nat.mul_le_mul (by omega) (by omega)
  omega

/-! ### Lists of integers as cells -/
def ints (xs : List Int) : Array Value := (xs.map (Value.int .i64)).toArray
theorem size_ints (xs : List Int) : (ints xs).size = xs.length := by simp [ints]
theorem get_ints (xs : List Int) (i : Nat) : (ints xs)[i]? = (xs[i]?).map (Value.int .i64) := by simp [ints]
theorem set_ints (xs : List Int) (i : Nat) (v : Int) : (ints xs).setIfInBounds i (.int .i64 v) = ints (xs.set i v) := by
  simp [ints, List.map_set]
theorem toList_ints (xs : List Int) : (ints xs).toList = xs.map (Value.int .i64) := by simp [ints]

/-! ### A grid that is filled row by row -/
def grid2 (f : Nat → Nat → Int) (k j : Nat) : List Int := (List.range 24).map fun y => if y < k then f y 20 else if y = k then f y j else 0
theorem grid2_len (f : Nat → Nat → Int) (k j : Nat) : (grid2 f k j).length = 24 := by simp [grid2]
theorem grid2_get (f : Nat → Nat → Int) (k j : Nat) (hk : k < (grid2 f k j).length) : (grid2 f k j)[k] = f k j := by simp [grid2]
theorem grid2_zero (f : Nat → Nat → Int) (h0 : ∀ y, f y 0 = 0) : grid2 f 0 0 = List.replicate 24 0 := by
  unfold grid2
  rw [List.eq_replicate_iff]
  refine ⟨by simp, fun b hb => ?_⟩
  obtain ⟨y, _, rfl⟩ := List.mem_map.1 hb
  rw [if_neg (by omega)]
  split
  · exact h0 y
  · rfl
theorem grid2_row (f : Nat → Nat → Int) (h0 : ∀ y, f y 0 = 0) (k : Nat) : grid2 f k 20 = grid2 f (k + 1) 0 := by
  unfold grid2
  apply List.map_congr_left
  intro i _
  by_cases e1 : i < k
  · rw [if_pos e1, if_pos (by omega)]
  · by_cases e2 : i = k
    · rw [if_neg e1, if_pos e2, if_pos (by omega)]
    · rw [if_neg e1, if_neg e2, if_neg (by omega)]
      split
      · rw [h0]
      · rfl
theorem grid2_all (f : Nat → Nat → Int) (j : Nat) : grid2 f 24 j = (List.range 24).map fun y => f y 20 := by
  unfold grid2
  apply List.map_congr_left
  intro i hi
  rw [if_pos (by simpa using hi)]
theorem grid2_set (f : Nat → Nat → Int) (k j : Nat) : (grid2 f k j).set k (f k (j + 1)) = grid2 f k (j + 1) := by
  unfold grid2
  apply List.ext_getElem (by simp)
  intro i h1 h2
  simp only [List.getElem_set, List.getElem_map, List.getElem_range]
  by_cases e : k = i
  · subst e; simp
  · rw [if_neg e]
    by_cases e1 : i < k
    · rw [if_pos e1, if_pos e1]
    · rw [if_neg e1, if_neg e1, if_neg (by omega), if_neg (by omega)]
theorem grid2_keep (f : Nat → Nat → Int) (k j : Nat) (hp : f k (j + 1) = f k j) : grid2 f k (j + 1) = grid2 f k j := by
  unfold grid2
  apply List.map_congr_left
  intro i _
  by_cases e : i = k
  · subst e; rw [hp]
  · rw [if_neg e, if_neg e]

/-! ### Rows of a region -/
def orI (a b : Int) : Int := bits BinOp.or IntKind.i64 a b
def rowV (p : Nat → Bool) : Nat → Int
  | 0 => 0
  | j + 1 => if p j then bits BinOp.or IntKind.i64 (rowV p j) (wrap64 (2 ^ j)) else rowV p j
theorem rowV_zero (p : Nat → Bool) : rowV p 0 = 0 := rfl
theorem rowV_yes {p : Nat → Bool} {j : Nat} (h : p j = true) : rowV p (j + 1) = bits BinOp.or IntKind.i64 (rowV p j) (wrap64 (2 ^ j)) := by rw [rowV, if_pos h]
theorem rowV_no {p : Nat → Bool} {j : Nat} (h : p j = false) : rowV p (j + 1) = rowV p j := by rw [rowV, if_neg (by simp [h])]
theorem rowV_congr {p q : Nat → Bool} (n : Nat) (h : ∀ i, i < n → p i = q i) : rowV p n = rowV q n := by
  induction n with
  | zero => rfl
  | succ n ih =>
    have e := ih fun i hi => h i (by omega)
    rw [rowV, rowV, e, h n (by omega)]
/-- Cell (x, y), x a column: it lies on the shield and h holds. -/
def cellP (h : Int → Int → Bool) (y x : Nat) : Bool := inSh x y && h x y
def cellF (h : Int → Int → Bool) (y j : Nat) : Int := rowV (cellP h y) j
theorem cellF_zero (h : Int → Int → Bool) (y : Nat) : cellF h y 0 = 0 := rfl
theorem cellF_yes {h : Int → Int → Bool} {k j : Nat} (h1 : inSh j k = true) (h2 : h j k = true) : cellF h k (j + 1) = bits BinOp.or IntKind.i64 (cellF h k j) (wrap64 (2 ^ j)) := rowV_yes (by simp [cellP, h1, h2])
theorem cellF_no1 {h : Int → Int → Bool} {k j : Nat} (h1 : ¬ inSh j k = true) : cellF h k (j + 1) = cellF h k j := rowV_no (by simp [cellP, h1])
theorem cellF_no2 {h : Int → Int → Bool} {k j : Nat} (h1 : ¬ h j k = true) : cellF h k (j + 1) = cellF h k j := rowV_no (by simp [cellP, h1])
def regRows (h : Int → Int → Bool) : List Int := (List.range 24).map fun y => cellF h y 20
theorem regRows_len (h : Int → Int → Bool) : (regRows h).length = 24 := by simp [regRows]
theorem regRows_congr {h g : Int → Int → Bool} (e : ∀ x y : Int, inSh x y = true → h x y = g x y) : regRows h = regRows g := by
  unfold regRows cellF
  apply List.map_congr_left
  intro y _
  apply rowV_congr
  intro x _
  unfold cellP
  cases hs : inSh x y
  · rfl
  · rw [e _ _ hs]

/-! ### Lines -/
def offL (line : Int) : List Int := if line = 1 then [0, 1, 1, 0] else if line = 2 then [0, 1, 1, 0, 0, -1, -1, 0] else if line = 3 then [0, 0, 2, 2] else if line = 4 then [0, 1, 2, 1] else [0]
def offF (line t : Int) : Int := (offL line).getD (t % ((offL line).length : Int)).toNat 0
theorem offL_0 : offL 0 = [0] := rfl
theorem offL_1 : offL 1 = [0, 1, 1, 0] := rfl
theorem offL_2 : offL 2 = [0, 1, 1, 0, 0, -1, -1, 0] := rfl
theorem offL_3 : offL 3 = [0, 0, 2, 2] := rfl
theorem offL_4 : offL 4 = [0, 1, 2, 1] := rfl
theorem offL_pos (line : Int) : 0 < (offL line).length := by unfold offL; split <;> (try split) <;> (try split) <;> (try split) <;> simp
theorem offF_bd (line t : Int) : -1 ≤ offF line t ∧ offF line t ≤ 2 := by
  unfold offF
  have h : ∀ v ∈ offL line, -1 ≤ v ∧ v ≤ 2 := by
    unfold offL
    intro v
    split
    · simp; omega
    · split
      · simp; omega
      · split
        · simp; omega
        · split <;> (simp; try omega)
  rw [List.getD_eq_getElem?_getD]
  cases e : (offL line)[(t % ((offL line).length : Int)).toNat]? with
  | none => simp
  | some v => exact h v (List.mem_of_getElem? e)
/-- 1 for true, 0 for false. -/
def numI (b : Bool) : Int := if b then 1 else 0
theorem numI_bd (b : Bool) : 0 ≤ numI b ∧ numI b ≤ 1 := by cases b <;> simp [numI]
/-- How often neighbouring offsets differ among the first j + 1. -/
def turnsJ (line : Int) : Nat → Int
  | 0 => 0
  | j + 1 => turnsJ line j + numI (offF line ((j : Int) + 1) != offF line j)
theorem turnsJ_bd (line : Int) (j : Nat) : 0 ≤ turnsJ line j ∧ turnsJ line j ≤ j := by
  induction j with
  | zero => simp [turnsJ]
  | succ j ih =>
    have := numI_bd (offF line ((j : Int) + 1) != offF line j)
    rw [turnsJ]
    omega
end Go.Proofs.YtenaadmifppphaaGreatDoor
