import Derived.Test.YtbhklkpjjpkblaaGreatDoorWInv
import Derived.Test.YtbhklkpjjpkblaaGreatDoorWFootNe
namespace Go.Proofs.YtbhklkpjjpkblaaGreatDoorW.PrintWords
open Go.RowKit
end Go.Proofs.YtbhklkpjjpkblaaGreatDoorW.PrintWords
namespace Go.Proofs.YtbhklkpjjpkblaaGreatDoorW.PrintLast
section
variable {ops : Array Oper} {a : Act} {o og : Oper} {g : Nat} {t : Tmp} {u : Bool}
end
end Go.Proofs.YtbhklkpjjpkblaaGreatDoorW.PrintLast
