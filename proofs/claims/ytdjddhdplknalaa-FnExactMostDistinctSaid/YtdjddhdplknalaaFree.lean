/- Contracts: FreeTinctures, both sides. -/
import Derived.Test.YtdjddhdplknalaaNear
import Derived.Test.YtdjddhdplknalaaApp
namespace Go.Proofs.Ytdjddhdplknalaa
open Go.ChangeShapes Go.WideShapes Go.ChangeAt Go.RowKit
set_option linter.unusedVariables false
set_option linter.unusedSimpArgs false

/-- Numbers in new memory, and whether all is well. -/
def IntsOk (w : World) (zs : List Int) (ok : Bool) (e : Ending) (w' : World) : Prop := ∃ v, e = .returned (.tuple #[v, .bool ok]) ∧ OwnI w' w.heap.size 3 v zs ∧ Below w.heap.size w w'
def tinA (a : ArmsD) (x : Int) : ArmsD := { a with t2 := x }
def freeP (rows : List ArmsD) (a : ArmsD) (i : Nat) : Bool := rows.all fun b => !confl (tinA a ((i : Int) + 1)) b
def freeK (rows : List ArmsD) (a : ArmsD) (k : Nat) : List Int := ((List.range k).filter (freeP rows a)).map fun (i : Nat) => (i : Int) + 1
theorem freeK_yes {rows : List ArmsD} {a : ArmsD} {k : Nat} (h : freeP rows a k = true) : freeK rows a (k + 1) = freeK rows a k ++ [(k : Int) + 1] := by simp [freeK, List.range_succ, h]
theorem freeK_no {rows : List ArmsD} {a : ArmsD} {k : Nat} (h : freeP rows a k = false) : freeK rows a (k + 1) = freeK rows a k := by simp [freeK, List.range_succ, h]
theorem freeK_len (rows : List ArmsD) (a : ArmsD) (k : Nat) : (freeK rows a k).length ≤ k := by
  unfold freeK
  rw [List.length_map]
  exact Nat.le_trans (List.length_filter_le _ _) (by simp)
def freeOk (rows : List ArmsD) (a : ArmsD) : Bool := listOk 16 rows && armsOk a && !groupNone a.c2 a.k2 a.a2 a.t2
def freeL (rows : List ArmsD) (a : ArmsD) : List Int := bif freeOk rows a then freeK rows a 9 else []
theorem freeL_len (rows : List ArmsD) (a : ArmsD) : (freeL rows a).length ≤ 9 := by
  unfold freeL
  cases freeOk rows a
  · simp
  · exact freeK_len rows a 9
theorem freeOk_parts {rows : List ArmsD} {a : ArmsD} (h : freeOk rows a = true) : listOk 16 rows = true ∧ armsOk a = true ∧ groupNone a.c2 a.k2 a.a2 a.t2 = false := by
  unfold freeOk at h
  rw [Bool.and_eq_true, Bool.and_eq_true] at h
  exact ⟨h.1.1, h.1.2, by simpa using h.2⟩
theorem tinA_ok {a : ArmsD} (h : armsOk a = true) (hn : groupNone a.c2 a.k2 a.a2 a.t2 = false) {x : Int} (h1 : 1 ≤ x) (h9 : x ≤ 9) : armsOk (tinA a x) = true := by
  have hg := armsOk_around h
  rw [any_ok hn] at hg
  have hg2 : groupOk a.c2 a.k2 a.a2 x = true := by
    simp only [groupOk, decide_eq_true_eq] at hg ⊢
    omega
  have hn2 : groupNone a.c2 a.k2 a.a2 x = false := by
    simp only [groupOk, decide_eq_true_eq] at hg
    exact none_not (by omega)
  have : armsOk (tinA a x) = armsOk a := by
    unfold armsOk tinA
    rw [any_ok hn, any_ok hn2, hg, hg2]
  rw [this]
  exact h
theorem around_pos {a : ArmsD} (h : armsOk a = true) (hn : groupNone a.c2 a.k2 a.a2 a.t2 = false) : (a.c2 == 0) = false := by
  have hg := armsOk_around h
  rw [any_ok hn] at hg
  simp only [groupOk, decide_eq_true_eq] at hg
  rw [beq_eq_false_iff_ne]
  omega
theorem confl_comm (a b : ArmsD) : confl a b = confl b a := by unfold confl; rw [df_comm]
theorem conflictC (a b : ArmsD) (w : World) (ga : armsOk a = true) (gb : armsOk b = true) : Calls Try.prog 41 #[.agg (ac a).toArray, .agg (ac b).toArray] w fun e w' => e = .returned (.bool (confl a b)) ∧ Below w.heap.size w w' := conflict_any a b w ga gb
theorem l15ConflictC (a b : ArmsD) (w : World) (ga : armsOk a = true) (gb : armsOk b = true) : Calls Try.prog 62 #[.agg (ac a).toArray, .agg (ac b).toArray] w fun e w' => e = .returned (.bool (confl a b)) ∧ Below w.heap.size w w' := l15Conflict_any a b w ga gb
theorem OwnI.none0 (w : World) (B g : Nat) (hg : g = w.heap.size) (hB : B ≤ g) : OwnI (w.alloc (.cells #[] 3)) B 3 (.slice (some ⟨g, 0, none⟩) 0 0) [] :=
  OwnI.blk (zs := []) (heap_hit _ _ _ hg) hB (by simp [maxLen])


end Go.Proofs.Ytdjddhdplknalaa
