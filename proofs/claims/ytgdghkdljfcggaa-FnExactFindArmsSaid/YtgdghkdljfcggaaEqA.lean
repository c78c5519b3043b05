/- The test of two arms for equality, as one operation. -/
import Derived.Test.YtgdghkdljfcggaaRArms
namespace Go.Proofs.Ytgdghkdljfcggaa
open Go.ChangeShapes Go.WideShapes Go.ChangeAt Go.RowKit
set_option linter.unusedVariables false
set_option linter.unusedSimpArgs false
def eqA (x y : ArmsD) : Bool := (decide (x.d = y.d) && (decide (x.l = y.l) && (decide (x.p = y.p) && (decide (x.q = y.q) && (decide (x.o = y.o) && (decide (x.li = y.li) && (decide (x.t = y.t) && (decide (x.c1 = y.c1) && (decide (x.k1 = y.k1) && (decide (x.a1 = y.a1) && (decide (x.t1 = y.t1) && (decide (x.c2 = y.c2) && (decide (x.k2 = y.k2) && (decide (x.a2 = y.a2) && (decide (x.t2 = y.t2) && true)))))))))))))))
theorem ite_ok (p : Prop) [Decidable p] (b : Bool) (w : World) : (if p then Result.ok (Value.bool b) w else Result.ok (Value.bool false) w) = Result.ok (Value.bool (decide p && b)) w := by
  split <;> simp [*]
set_option maxHeartbeats 2000000 in
theorem eqA_run (x y : ArmsD) (w : World) : (binOp .eql 44 (.agg (ac x).toArray) (.agg (ac y).toArray)).run Try.prog w = .ok (.bool (eqA x y)) w := by
  unfold ac
  go_simp
  simp only [ite_ok]
  rfl
section
variable {ops : Array Oper} {rest : List Oper} {op : Oper} {a : Act} {w : World} {Q : Exit → Act → World → Prop}
theorem wpList_eqA (hgd : op.guard = none) (x y : Operand) (r : TypeId) (ho : op.op = .binOp .eql 44 x y r) (p q : ArmsD) (hx : a.eval x = .agg (ac p).toArray) (hy : a.eval y = .agg (ac q).toArray)
    (h : wpList Try.prog ops Q rest (a.put op.dst (.bool (eqA p q))) w) : wpList Try.prog ops Q (op :: rest) a w := by
  refine wpList_plain hgd fun _ hK => ?_
  have hr := eqA_run p q w
  have hg := run_eqGuard_agg (P := Try.prog) w .eql 44 x y (ac p).toArray (ac q).toArray (by kernel_rfl)
  unfold Oper.wp execOp
  simp only [ho, hx, hy, Sem.run_bind, hg, hr, Sem.run_pure, Result.andThen_ok]
  exact hK _ _ h
theorem exec_eqA (x y : Operand) (r : TypeId) (ho : op.op = .binOp .eql 44 x y r) (p q : ArmsD) (hx : a.eval x = .agg (ac p).toArray) (hy : a.eval y = .agg (ac q).toArray) (w : World) : (execOp a.eval op).run Try.prog w = .ok (.value (.bool (eqA p q))) w := by
  have hr := eqA_run p q w
  have hg := run_eqGuard_agg (P := Try.prog) w .eql 44 x y (ac p).toArray (ac q).toArray (by kernel_rfl)
  unfold execOp
  simp only [ho, hx, hy, Sem.run_bind, hg, hr, Sem.run_pure, Result.andThen_ok]
end
end Go.Proofs.Ytgdghkdljfcggaa
