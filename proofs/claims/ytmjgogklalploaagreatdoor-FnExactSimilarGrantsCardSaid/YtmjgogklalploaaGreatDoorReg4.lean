/- Contracts: IsValidRegister of the reference. -/
import Derived.Test.YtmjgogklalploaaGreatDoorReg2
namespace Go.Proofs.YtmjgogklalploaaGreatDoor
open Go.ChangeShapes Go.WideShapes Go.ChangeAt Go.RowKit
end Go.Proofs.YtmjgogklalploaaGreatDoor
