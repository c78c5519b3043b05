/- Which grids are pictures. No program in sight. -/
import Derived.Test.YtenaadmifppphaaGreatDoorPlain
namespace Go.Proofs.YtenaadmifppphaaGreatDoor
open Go.RowKit
def cellG (x y n : Int) : Bool := bif inSh x y then decide (1 ≤ n ∧ n ≤ 9) else decide (n = 0)
def rowG (y : Nat) (row : List Int) : Bool := decide (row.length = 20) && (List.range 20).all fun x => cellG x y (row.getD x 0)
def picOk (rows : List (List Int)) : Bool := decide (rows.length = 24) && (List.range 24).all fun y => rowG y (rows.getD y [])
theorem rowG_len {y : Nat} {row : List Int} (h : ¬ row.length = 20) : rowG y row = false := by simp [rowG, h]
theorem rowG_no {y x : Nat} {row : List Int} {v : Int} (hx : x < 20) (hv : row[x]? = some v) (h : cellG x y v = false) : rowG y row = false := by
  have : (List.range 20).all (fun x : Nat => cellG x y (row.getD x 0)) = false := by
    rw [List.all_eq_false]
    exact ⟨x, List.mem_range.2 hx, by rw [List.getD_eq_getElem?_getD, hv]; simpa using h⟩
  unfold rowG
  rw [this, Bool.and_false]
theorem rowG_yes {y : Nat} {row : List Int} (hl : row.length = 20) (h : ∀ (x : Nat) (v : Int), x < 20 → row[x]? = some v → cellG x y v = true) : rowG y row = true := by
  simp only [rowG, hl, decide_true, Bool.true_and, List.all_eq_true, List.mem_range]
  intro x hx
  refine h x _ hx ?_
  rw [List.getD_eq_getElem?_getD, List.getElem?_eq_getElem (by omega)]
  rfl
theorem picOk_len {rows : List (List Int)} (h : ¬ rows.length = 24) : picOk rows = false := by simp [picOk, h]
theorem picOk_no {y : Nat} {rows : List (List Int)} {row : List Int} (hy : y < 24) (hr : rows[y]? = some row) (h : rowG y row = false) : picOk rows = false := by
  have : (List.range 24).all (fun y : Nat => rowG y (rows.getD y [])) = false := by
    rw [List.all_eq_false]
    exact ⟨y, List.mem_range.2 hy, by rw [List.getD_eq_getElem?_getD, hr]; simpa using h⟩
  unfold picOk
  rw [this, Bool.and_false]
theorem picOk_yes {rows : List (List Int)} (hl : rows.length = 24) (h : ∀ (y : Nat) (row : List Int), y < 24 → rows[y]? = some row → rowG y row = true) : picOk rows = true := by
  simp only [picOk, hl, decide_true, Bool.true_and, List.all_eq_true, List.mem_range]
  intro y hy
  refine h y _ hy ?_
  rw [List.getD_eq_getElem?_getD, List.getElem?_eq_getElem (by omega)]
  rfl
theorem picOk_24 {rows : List (List Int)} (h : picOk rows = true) : rows.length = 24 := by
  unfold picOk at h
  rw [Bool.and_eq_true, decide_eq_true_iff] at h
  exact h.1
theorem picOk_row {rows : List (List Int)} (h : picOk rows = true) {y : Nat} {row : List Int} (hr : rows[y]? = some row) : rowG y row = true := by
  have hl := picOk_24 h
  have hy := (List.getElem?_eq_some_iff.1 hr).1
  unfold picOk at h
  rw [Bool.and_eq_true, List.all_eq_true] at h
  have := h.2 y (List.mem_range.2 (by omega))
  rw [List.getD_eq_getElem?_getD, hr] at this
  exact this
theorem rowG_20 {y : Nat} {row : List Int} (h : rowG y row = true) : row.length = 20 := by
  unfold rowG at h
  rw [Bool.and_eq_true, decide_eq_true_iff] at h
  exact h.1
theorem rowG_cell {y : Nat} {row : List Int} (h : rowG y row = true) {x : Nat} {v : Int} (hv : row[x]? = some v) : cellG x y v = true := by
  have hl := rowG_20 h
  have hx := (List.getElem?_eq_some_iff.1 hv).1
  unfold rowG at h
  rw [Bool.and_eq_true, List.all_eq_true] at h
  have := h.2 x (List.mem_range.2 (by omega))
  rw [List.getD_eq_getElem?_getD, hv] at this
  exact this
theorem cellG_bd {x y n : Int} (h : cellG x y n = true) : 0 ≤ n ∧ n ≤ 9 := by
  unfold cellG at h
  cases hz : inSh x y <;> rw [hz] at h <;> simp at h <;> omega
end Go.Proofs.YtenaadmifppphaaGreatDoor
