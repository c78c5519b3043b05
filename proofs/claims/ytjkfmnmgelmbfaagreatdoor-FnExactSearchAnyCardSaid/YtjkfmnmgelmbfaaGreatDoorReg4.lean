/- Contracts: IsValidRegister of the reference. -/
import Derived.Test.YtjkfmnmgelmbfaaGreatDoorReg2
namespace Go.Proofs.YtjkfmnmgelmbfaaGreatDoor
open Go.ChangeShapes Go.WideShapes Go.ChangeAt Go.RowKit
end Go.Proofs.YtjkfmnmgelmbfaaGreatDoor
