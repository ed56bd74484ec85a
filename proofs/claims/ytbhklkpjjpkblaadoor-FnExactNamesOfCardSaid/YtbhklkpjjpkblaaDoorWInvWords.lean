import Derived.Test.YtbhklkpjjpkblaaDoorWInv
import Derived.Test.YtbhklkpjjpkblaaDoorWFootNe
namespace Go.Proofs.YtbhklkpjjpkblaaDoorW.PrintWords
open Go.RowKit
end Go.Proofs.YtbhklkpjjpkblaaDoorW.PrintWords
namespace Go.Proofs.YtbhklkpjjpkblaaDoorW.PrintLast
section
variable {ops : Array Oper} {a : Act} {o og : Oper} {g : Nat} {t : Tmp} {u : Bool}
end
end Go.Proofs.YtbhklkpjjpkblaaDoorW.PrintLast
