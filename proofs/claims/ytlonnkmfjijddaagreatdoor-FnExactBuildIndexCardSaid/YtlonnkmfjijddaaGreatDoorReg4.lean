/- Contracts: IsValidRegister of the reference. -/
import Derived.Test.YtlonnkmfjijddaaGreatDoorReg2
namespace Go.Proofs.YtlonnkmfjijddaaGreatDoor
open Go.ChangeShapes Go.WideShapes Go.ChangeAt Go.RowKit
end Go.Proofs.YtlonnkmfjijddaaGreatDoor
