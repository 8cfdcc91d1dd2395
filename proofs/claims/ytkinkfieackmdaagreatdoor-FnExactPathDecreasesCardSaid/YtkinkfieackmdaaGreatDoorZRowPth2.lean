import Derived.Test.YtkinkfieackmdaaGreatDoorZRowPth1
namespace Go.Proofs.YtkinkfieackmdaaGreatDoor
open Go.RowKit
structure Fm where
 kind:Int
 prop:Int
 kids:List Fm
end Go.Proofs.YtkinkfieackmdaaGreatDoor
