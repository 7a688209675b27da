-- Out of the words that the kit's print.sh laid for this claim: cut by a program to what is used, the white space thinned.
import Derived.Test.YtikikmkfeeljgaaWInv
import Derived.Test.YtikikmkfeeljgaaWFootNe
namespace Go.Proofs.YtikikmkfeeljgaaW.PrintWords
open Go.RowKit
end Go.Proofs.YtikikmkfeeljgaaW.PrintWords
namespace Go.Proofs.YtikikmkfeeljgaaW.PrintLast
section
variable {ops : Array Oper} {a : Act} {o og : Oper} {g : Nat} {t : Tmp} {u : Bool}
end
end Go.Proofs.YtikikmkfeeljgaaW.PrintLast
