/- Contracts: ConflictsWith, both sides. -/
import Derived.Test.YtmjgogklalploaaGreatDoorNums
namespace Go.Proofs.YtmjgogklalploaaGreatDoor
open Go.ChangeShapes Go.WideShapes Go.ChangeAt Go.RowKit
set_option linter.unusedVariables false
set_option linter.unusedSimpArgs false
theorem blk_cells {w : World} {a : ArmsD} {g : Nat} {T : TypeId} (h : w.heap[g]? = some (.cells (ac a).toArray T (0, 0))) : w.cell? ⟨g, 0, none⟩ = some (.int .i64 a.d) ∧ w.cell? ⟨g, 1, none⟩ = some (.int .i64 a.l) ∧ w.cell? ⟨g, 2, none⟩ = some (.int .i64 a.p) ∧ w.cell? ⟨g, 3, none⟩ = some (.int .i64 a.q) ∧ w.cell? ⟨g, 4, none⟩ = some (.int .i64 a.o) ∧ w.cell? ⟨g, 5, none⟩ = some (.int .i64 a.li) ∧ w.cell? ⟨g, 6, none⟩ = some (.int .i64 a.t) ∧ w.cell? ⟨g, 7, none⟩ = some (.int .i64 a.c1) ∧ w.cell? ⟨g, 8, none⟩ = some (.int .i64 a.k1) ∧ w.cell? ⟨g, 9, none⟩ = some (.int .i64 a.a1) ∧ w.cell? ⟨g, 10, none⟩ = some (.int .i64 a.t1) ∧ w.cell? ⟨g, 11, none⟩ = some (.int .i64 a.c2) ∧ w.cell? ⟨g, 12, none⟩ = some (.int .i64 a.k2) ∧ w.cell? ⟨g, 13, none⟩ = some (.int .i64 a.a2) ∧ w.cell? ⟨g, 14, none⟩ = some (.int .i64 a.t2) :=
  ⟨cell_of h 0, cell_of h 1, cell_of h 2, cell_of h 3, cell_of h 4, cell_of h 5, cell_of h 6, cell_of h 7, cell_of h 8, cell_of h 9, cell_of h 10, cell_of h 11, cell_of h 12, cell_of h 13, cell_of h 14⟩
theorem regOk_mem {rows : List GrantD} (h : regOk rows = true) {g : GrantD} (hg : g ∈ rows) : armsOk g.a = true := by
  obtain ⟨i, hi⟩ := List.getElem?_of_mem hg
  exact regOk_arms h hi
theorem confL_len (rows : List GrantD) (a : ArmsD) : (bif regOk rows && armsOk a then nums rows (fun g => confl g.a a) else []).length ≤ rows.length := by
  cases regOk rows && armsOk a
  · simp
  · exact nums_len rows _
theorem IsValidArmsC (a : ArmsD) (w : World) : Calls Tryz.prog 38 #[.agg (ac a).toArray] w fun e w' => e = .returned (.bool (armsOk a)) ∧ Below w.heap.size w w' := IsValidArms_any a w
theorem l5GoodC (a : ArmsD) (w : World) : Calls Tryz.prog 29 #[.agg (ac a).toArray] w fun e w' => e = .returned (.bool (armsOk a)) ∧ Below w.heap.size w w' := l5Good_any a w



end Go.Proofs.YtmjgogklalploaaGreatDoor
