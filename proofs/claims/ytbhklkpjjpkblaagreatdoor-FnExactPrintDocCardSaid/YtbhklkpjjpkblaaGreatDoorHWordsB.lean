/- Words beside the printed ones: a text made bytes and appended at once. -/
import Derived.Test.YtbhklkpjjpkblaaGreatDoorWMore
import Derived.Lib.ConvBytes
namespace Go.Proofs.YtbhklkpjjpkblaaGreatDoorW.WordsB
open Go.RowKit Go.Proofs.YtbhklkpjjpkblaaGreatDoorW.PrintWords
section
variable {P : Program} {ops : Array Oper} {rest : List Oper} {o1 o2 : Oper} {a : Act} {Q : Exit → Act → World → Prop}
end
end Go.Proofs.YtbhklkpjjpkblaaGreatDoorW.WordsB
