/- slices.ContainsFunc at []impl.Tick, at a predicate that only computes. -/
import Derived.Test.YtkjommcmeinkaaaGreatDoorTick
import Derived.Shelf.Abstract
namespace Go.Proofs.YtkjommcmeinkaaaGreatDoor
open Go.RowKit
end Go.Proofs.YtkjommcmeinkaaaGreatDoor
