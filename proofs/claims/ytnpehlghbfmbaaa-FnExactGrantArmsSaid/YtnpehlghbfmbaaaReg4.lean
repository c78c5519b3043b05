/- Contracts: IsValidRegister of the reference. -/
import Derived.Test.YtnpehlghbfmbaaaReg2
namespace Go.Proofs.Ytnpehlghbfmbaaa
open Go.ChangeShapes Go.WideShapes Go.ChangeAt Go.RowKit
end Go.Proofs.Ytnpehlghbfmbaaa
