import Derived.Test.YtaliphegdclkfaaWInv
import Derived.Test.YtaliphegdclkfaaWFootNe
namespace Go.Proofs.YtaliphegdclkfaaW.PrintWords
open Go.RowKit
end Go.Proofs.YtaliphegdclkfaaW.PrintWords
namespace Go.Proofs.YtaliphegdclkfaaW.PrintLast
section
variable {ops : Array Oper} {a : Act} {o og : Oper} {g : Nat} {t : Tmp} {u : Bool}
end
end Go.Proofs.YtaliphegdclkfaaW.PrintLast
