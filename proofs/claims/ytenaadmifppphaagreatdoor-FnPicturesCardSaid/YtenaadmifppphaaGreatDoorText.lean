/- Texts that are written cell by cell, row by row. No program in sight. -/
import Derived.Test.YtenaadmifppphaaGreatDoorPlain
namespace Go.Proofs.YtenaadmifppphaaGreatDoor
open Go.RowKit
/-- What is written of the first j cells of row y. -/
def rowT (f : Nat → Nat → Int → UInt8) (y : Nat) (row : List Int) (j : Nat) : List UInt8 := (List.range j).map fun x => f y x (row.getD x 0)
/-- What is written of the first k rows, tl behind each. -/
def textT (f : Nat → Nat → Int → UInt8) (tl : List UInt8) (rows : List (List Int)) : Nat → List UInt8
  | 0 => []
  | k + 1 => textT f tl rows k ++ (rowT f k (rows.getD k []) 20 ++ tl)
theorem rowT_len (f : Nat → Nat → Int → UInt8) (y : Nat) (row : List Int) (j : Nat) : (rowT f y row j).length = j := by simp [rowT]
theorem textT_len (f : Nat → Nat → Int → UInt8) (tl : List UInt8) (rows : List (List Int)) (k : Nat) : (textT f tl rows k).length = k * (20 + tl.length) := by
  induction k with
  | zero => simp [textT]
  | succ k ih => rw [textT, List.length_append, ih, List.length_append, rowT_len, Nat.add_mul]; omega
theorem rowT_snoc {f : Nat → Nat → Int → UInt8} {y j : Nat} {row : List Int} {v : Int} (hv : row[j]? = some v) : rowT f y row (j + 1) = rowT f y row j ++ [f y j v] := by
  unfold rowT
  rw [List.range_succ, List.map_append]
  simp [List.getD_eq_getElem?_getD, hv]
theorem textT_snoc {f : Nat → Nat → Int → UInt8} {tl : List UInt8} {rows : List (List Int)} {k : Nat} {row : List Int} (hr : rows[k]? = some row) : textT f tl rows (k + 1) = textT f tl rows k ++ (rowT f k row 20 ++ tl) := by
  rw [textT, List.getD_eq_getElem?_getD, hr]
  rfl
theorem textT_step {f : Nat → Nat → Int → UInt8} {tl : List UInt8} {rows : List (List Int)} {k j : Nat} {row : List Int} {v : Int} (hv : row[j]? = some v) :
    textT f tl rows k ++ rowT f k row j ++ [f k j v] = textT f tl rows k ++ rowT f k row (j + 1) := by rw [rowT_snoc hv, List.append_assoc]
end Go.Proofs.YtenaadmifppphaaGreatDoor
