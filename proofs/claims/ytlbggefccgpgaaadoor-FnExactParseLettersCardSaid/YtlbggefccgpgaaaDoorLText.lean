/- Contracts: LetterText, both sides. -/
import Derived.Test.YtlbggefccgpgaaaDoorLetters
namespace Go.Proofs.YtlbggefccgpgaaaDoor
open Go.ChangeShapes Go.WideShapes Go.ChangeAt Go.RowKit
set_option linter.unusedVariables false
def letterT (rows : List (List Int)) : List UInt8 := bif picOk rows then textT letC [10] rows 24 else []
end Go.Proofs.YtlbggefccgpgaaaDoor
