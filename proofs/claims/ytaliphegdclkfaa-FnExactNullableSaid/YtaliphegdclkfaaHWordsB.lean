/- Words beside the printed ones: a text made bytes and appended at once. -/
import Derived.Test.YtaliphegdclkfaaWMore
import Derived.Lib.ConvBytes
namespace Go.Proofs.YtaliphegdclkfaaW.WordsB
open Go.RowKit Go.Proofs.YtaliphegdclkfaaW.PrintWords
section
variable {P : Program} {ops : Array Oper} {rest : List Oper} {o1 o2 : Oper} {a : Act} {Q : Exit → Act → World → Prop}
end
end Go.Proofs.YtaliphegdclkfaaW.WordsB
