/- Contracts: conflicts; ArmsDifferences, Conflict, both sides. -/
import Derived.Test.YtjodoljgpdbimaaDiff2
namespace Go.Proofs.Ytjodoljgpdbimaa
open Go.ChangeShapes Go.WideShapes Go.ChangeAt Go.RowKit
set_option linter.unusedVariables false
def confl (a b : ArmsD) : Bool := decide (df a b < 2)
end Go.Proofs.Ytjodoljgpdbimaa
