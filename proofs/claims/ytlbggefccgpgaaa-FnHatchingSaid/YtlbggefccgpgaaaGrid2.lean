/- Pictures made cell by cell in memory of the call's own. -/
import Derived.Test.YtlbggefccgpgaaaGG
import Derived.Test.YtlbggefccgpgaaaGGMark
import Derived.Test.YtlbggefccgpgaaaPicR
import Derived.OwnWalk
namespace Go.Proofs.Ytlbggefccgpgaaa
open Go.ChangeShapes Go.WideShapes Go.ChangeAt Go.RowKit
set_option linter.unusedVariables false
set_option linter.unusedSimpArgs false
theorem ob_symm {a b : Option Nat} (h : a = none ∨ a ≠ b) : b = none ∨ b ≠ a := by
  rcases h with h | h
  · subst h
    cases b
    · exact .inl rfl
    · exact .inr (by simp)
  · exact .inr fun e => h e.symm
theorem GG.upd {w w' : World} {B k : Nat} {v u : Value} {rows : List (List Int)} {vs : List Value} {row' : List Int} (h : GG w B v rows vs) (hk : k < rows.length) (hu : vs[k]? = some u)
    (ho : OwnI w' B 3 u row') (hg : w.grownBy w' u.ownBlock) : GG w' B v (rows.set k row') vs := by
  refine ⟨?_, fun i x r h1 h2 => ?_, h.apart, h.sep⟩
  · rw [List.length_set]
    exact World.ownsRow.kept h.out hg (ob_symm (h.sep k u hu))
  · rw [List.getElem?_set] at h2
    by_cases e : k = i
    · subst e
      rw [if_pos rfl, if_pos hk] at h2
      injection h2 with h2
      subst h2
      rw [hu] at h1
      injection h1 with h1
      subst h1
      exact ho
    · rw [if_neg e] at h2
      refine (h.own i x r h1 h2).other hg ?_
      rcases Nat.lt_or_ge i k with hik | hik
      · exact h.apart i k x u hik h1 hu
      · exact ob_symm (h.apart k i u x (by omega) hu h1)
/-- A row of the call's own is put into the outer one. -/
theorem GG.putRow {w : World} {B g n c k : Nat} {u : Value} {rows : List (List Int)} {vs : List Value} {row : List Int} (h : GG w B (.slice (some ⟨g, 0, none⟩) n c) rows vs) (hn : rows.length = n) (hk : k < rows.length) (ho : OwnI w B 3 u row)
    (hx : ∀ (i : Nat) (x : Value), i ≠ k → vs[i]? = some x → x.ownBlock = none ∨ x.ownBlock ≠ u.ownBlock) (hug : u.ownBlock ≠ some g) :
    GG (w.setCell ⟨g, k, none⟩ u) B (.slice (some ⟨g, 0, none⟩) n c) (rows.set k row) (vs.set k u) := by
  subst hn
  obtain ⟨h1, h2⟩ := World.ownsRow.stored h.out k u
  have hlv : k < vs.length := by rw [h.len]; exact hk
  refine ⟨by rw [List.length_set]; exact h1, fun i x r e1 e2 => ?_, fun i j x y hij e1 e2 => ?_, fun i x e1 => ?_⟩
  · rw [List.getElem?_set] at e1 e2
    by_cases e : k = i
    · subst e
      rw [if_pos rfl, if_pos hlv] at e1
      rw [if_pos rfl, if_pos hk] at e2
      injection e1 with e1
      injection e2 with e2
      subst e1 e2
      exact ho.other h2 (.inr hug)
    · rw [if_neg e] at e1 e2
      exact (h.own i x r e1 e2).other h2 (h.sep i x e1)
  · rw [List.getElem?_set] at e1 e2
    by_cases e : k = i
    · subst e
      rw [if_pos rfl, if_pos hlv] at e1
      rw [if_neg (by omega)] at e2
      injection e1 with e1
      subst e1
      exact ob_symm (hx j y (by omega) e2)
    · rw [if_neg e] at e1
      by_cases e' : k = j
      · subst e'
        rw [if_pos rfl, if_pos hlv] at e2
        injection e2 with e2
        subst e2
        exact hx i x (by omega) e1
      · rw [if_neg e'] at e2
        exact h.apart i j x y hij e1 e2
  · rw [List.getElem?_set] at e1
    by_cases e : k = i
    · subst e
      rw [if_pos rfl, if_pos hlv] at e1
      injection e1 with e1
      subst e1
      exact .inr hug
    · rw [if_neg e] at e1
      exact h.sep i x e1
/-! ### A picture of letters that is being filled -/
def rowJ (s : List UInt8) (i y : Nat) : List Int := (List.range 20).map fun x => if 20 * y + x < i then letNo (s.getD (20 * y + x) 0) else 0
def gridI (s : List UInt8) (i : Nat) : List (List Int) := (List.range 24).map (rowJ s i)
theorem rowJ_len (s : List UInt8) (i y : Nat) : (rowJ s i y).length = 20 := by simp [rowJ]
theorem gridI_len (s : List UInt8) (i : Nat) : (gridI s i).length = 24 := by simp [gridI]
theorem gridI_at (s : List UInt8) (i : Nat) {y : Nat} (hy : y < 24) : (gridI s i)[y]? = some (rowJ s i y) := by simp [gridI, hy]
theorem gridI_set {s : List UInt8} {i : Nat} {b : UInt8} (hi : i < 480) (hb : s[i]? = some b) : (gridI s i).set (i / 20) ((rowJ s i (i / 20)).set (i % 20) (letNo b)) = gridI s (i + 1) := by
  apply List.ext_getElem?
  intro y
  rw [List.getElem?_set, gridI_len]
  by_cases hy : y < 24
  · rw [gridI_at s _ hy, gridI_at s _ hy]
    by_cases e : i / 20 = y
    · rw [if_pos e, if_pos (by omega)]
      congr 1
      apply List.ext_getElem?
      intro x
      rw [List.getElem?_set, rowJ_len, e]
      by_cases hx : x < 20
      · simp only [rowJ, List.getElem?_map, List.getElem?_range hx, Option.map_some]
        by_cases e2 : i % 20 = x
        · rw [if_pos e2, if_pos (by omega), if_pos (by omega)]
          have : 20 * y + x = i := by omega
          rw [this, List.getD_eq_getElem?_getD, hb]
          rfl
        · rw [if_neg e2]
          congr 1
          by_cases q : 20 * y + x < i
          · rw [if_pos q, if_pos (by omega)]
          · rw [if_neg q, if_neg (by omega)]
      · rw [if_neg (by omega), List.getElem?_eq_none (by rw [rowJ_len]; omega), List.getElem?_eq_none (by rw [rowJ_len]; omega)]
    · rw [if_neg e]
      congr 1
      apply List.ext_getElem?
      intro x
      by_cases hx : x < 20
      · simp only [rowJ, List.getElem?_map, List.getElem?_range hx, Option.map_some]
        congr 1
        by_cases q : 20 * y + x < i
        · rw [if_pos q, if_pos (by omega)]
        · rw [if_neg q, if_neg (by omega)]
      · rw [List.getElem?_eq_none (by rw [rowJ_len]; omega), List.getElem?_eq_none (by rw [rowJ_len]; omega)]
  · rw [if_neg (by omega), List.getElem?_eq_none (by rw [gridI_len]; omega), List.getElem?_eq_none (by rw [gridI_len]; omega)]
theorem gridI_all {s : List UInt8} (hs : s.length = 480) : gridI s 480 = picP s 24 := by
  unfold gridI picP
  refine List.map_congr_left fun y hy => ?_
  have hy' := List.mem_range.1 hy
  apply List.ext_getElem?
  intro x
  by_cases hx : x < 20
  · have hb : s[20 * y + x]? = some (s[20 * y + x]'(by omega)) := List.getElem?_eq_getElem _
    rw [rowP_at s hx hb]
    simp only [rowJ, List.getElem?_map, List.getElem?_range hx, Option.map_some]
    rw [if_pos (by omega), List.getD_eq_getElem?_getD, hb]
    rfl
  · rw [List.getElem?_eq_none (by rw [rowJ_len]; omega), List.getElem?_eq_none (by rw [rowP_len s hs hy']; omega)]
theorem rowJ_zero (s : List UInt8) (y : Nat) : rowJ s 0 y = List.replicate 20 0 := by
  apply List.ext_getElem?
  intro x
  by_cases hx : x < 20
  · rw [List.getElem?_replicate, if_pos hx]
    simp only [rowJ, List.getElem?_map, List.getElem?_range hx, Option.map_some]
    rfl
  · rw [List.getElem?_eq_none (by rw [rowJ_len]; omega), List.getElem?_eq_none (by simp; omega)]
/-- The rows that are there. -/
def gridK (k : Nat) : List (List Int) := (List.range 24).map fun y => if y < k then List.replicate 20 0 else []
theorem gridK_len (k : Nat) : (gridK k).length = 24 := by simp [gridK]
theorem gridK_set {k : Nat} (hk : k < 24) : (gridK k).set k (List.replicate 20 0) = gridK (k + 1) := by
  apply List.ext_getElem?
  intro y
  rw [List.getElem?_set, gridK_len]
  by_cases hy : y < 24
  · simp only [gridK, List.getElem?_map, List.getElem?_range hy, Option.map_some]
    by_cases e : k = y
    · rw [if_pos e, if_pos hk, if_pos (by omega)]
    · rw [if_neg e]
      congr 1
      by_cases q : y < k
      · rw [if_pos q, if_pos (by omega)]
      · rw [if_neg q, if_neg (by omega)]
  · rw [if_neg (by omega), List.getElem?_eq_none (by rw [gridK_len]; omega), List.getElem?_eq_none (by rw [gridK_len]; omega)]
theorem gridK_all (s : List UInt8) : gridK 24 = gridI s 0 := by
  unfold gridK gridI
  refine List.map_congr_left fun y hy => ?_
  rw [if_pos (List.mem_range.1 hy), rowJ_zero]
end Go.Proofs.Ytlbggefccgpgaaa
