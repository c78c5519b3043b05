/- Contracts: letters of a picture, both sides. -/
import Derived.Test.YtlbggefccgpgaaaPics
import Derived.Test.YtlbggefccgpgaaaBytes
import Derived.Test.YtlbggefccgpgaaaText
namespace Go.Proofs.Ytlbggefccgpgaaa
open Go.ChangeShapes Go.WideShapes Go.ChangeAt Go.RowKit
set_option linter.unusedVariables false
def letL : List UInt8 := [46, 103, 115, 114, 98, 107, 110, 112, 101, 118]
def letU (v : Int) : UInt8 := letL.getD v.toNat 0
def letC (_y _x : Nat) (v : Int) : UInt8 := letU v
theorem letIdx (v : Int) (h0 : 0 ≤ v) (h9 : v ≤ 9) (w : World) : (Instr.index 9 (.string ⟨#[46, 103, 115, 114, 98, 107, 110, 112, 101, 118]⟩) (.int .i64 v)).run Try.prog w = .ok (.int .u8 ((letU v).toNat : Int)) w := by
  obtain rfl | rfl | rfl | rfl | rfl | rfl | rfl | rfl | rfl | rfl : v = 0 ∨ v = 1 ∨ v = 2 ∨ v = 3 ∨ v = 4 ∨ v = 5 ∨ v = 6 ∨ v = 7 ∨ v = 8 ∨ v = 9 := by omega
  all_goals kernel_rfl
end Go.Proofs.Ytlbggefccgpgaaa
