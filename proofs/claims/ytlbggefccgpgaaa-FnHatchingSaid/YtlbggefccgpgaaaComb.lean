/- Contracts: regions combined, on both sides. -/
import Derived.Test.YtlbggefccgpgaaaValid
namespace Go.Proofs.Ytlbggefccgpgaaa
open Go.ChangeShapes Go.WideShapes Go.ChangeAt Go.RowKit
set_option linter.unusedVariables false

theorem regOk_24 {zs : List Int} (h : regOk zs = true) : zs.length = 24 := by
  simp [regOk] at h
  exact h.1
theorem regOk_row {zs : List Int} (h : regOk zs = true) {y : Nat} {v : Int} (hy : zs[y]? = some v) : rowS v (shP y) = true := by
  have h24 := regOk_24 h
  have hlt : y < 24 := by
    rcases Nat.lt_or_ge y zs.length with h1 | h1
    · omega
    · rw [List.getElem?_eq_none h1] at hy; cases hy
  unfold regOk at h
  rw [Bool.and_eq_true, List.all_eq_true] at h
  have := h.2 y (List.mem_range.2 hlt)
  rw [List.getD_eq_getElem?_getD, hy] at this
  exact this
theorem rowS_bd {v : Int} {p : Nat → Bool} (h : rowS v p = true) : 0 ≤ v ∧ v ≤ 1048575 := by
  simp [rowS] at h
  exact h.1
theorem regOk_bd {zs : List Int} (h : regOk zs = true) : ∀ v ∈ zs, v < 2 ^ 63 := by
  intro v hv
  obtain ⟨y, hy⟩ := List.mem_iff_getElem?.1 hv
  have := rowS_bd (regOk_row h hy)
  omega
def comb (how a b : Int) : Int := if how = 1 then bits BinOp.or IntKind.i64 a b else if how = 2 then bits BinOp.and IntKind.i64 a b else bits BinOp.andNot IntKind.i64 a b
def combL (how : Int) (xs ys : List Int) : List Int := (List.range 24).map fun y => comb how (xs.getD y 0) (ys.getD y 0)
theorem combL_len (how : Int) (xs ys : List Int) : (combL how xs ys).length = 24 := by simp [combL]
theorem combL_get {how : Int} {xs ys : List Int} {k : Nat} {x y : Int} (hk : k < 24) (hx : xs[k]? = some x) (hy : ys[k]? = some y) : (combL how xs ys)[k]? = some (comb how x y) := by
  simp [combL, hk, hx, hy, List.getD_eq_getElem?_getD]
theorem copyL_setv {zs : List Int} {k : Nat} {v : Int} (h : zs[k]? = some v) : (copyL zs k).set k v = copyL zs (k + 1) := by
  have hk : k < zs.length := by
    rcases Nat.lt_or_ge k zs.length with h1 | h1
    · exact h1
    · rw [List.getElem?_eq_none h1] at h; cases h
  rw [List.getElem?_eq_getElem hk] at h
  injection h with h
  rw [← h]
  exact copyL_set zs k hk
end Go.Proofs.Ytlbggefccgpgaaa
