/- Whatever an argument reads as is a value of the kind that the printed functions speak of. -/
import Derived.Test.YtdfopjmokbcnlaaDoorWWords
import Derived.Deep.Slices
import Derived.Deep.Fields
import Derived.SizedLaws
import Derived.ChangeArms
namespace Go.Proofs.YtdfopjmokbcnlaaDoorW.Open
open Go.RowKit Go.Deep Go.Proofs.YtdfopjmokbcnlaaDoorW.PrintWords


section
variable {α : Type} {P : Program} {t e : TypeId}
end
end Go.Proofs.YtdfopjmokbcnlaaDoorW.Open
