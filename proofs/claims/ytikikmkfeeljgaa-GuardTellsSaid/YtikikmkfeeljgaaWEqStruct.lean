-- Out of the words that the kit's print.sh laid for this claim: cut by a program to what is used, the white space thinned.
import Derived.Test.YtikikmkfeeljgaaWWords
import Derived.Laws.StructEq
/-! ### 53. '==' of structs as_ one Bool -/
namespace Go.Proofs.YtikikmkfeeljgaaW.PrintWords
open Go.RowKit
section
variable {P : Program} {d : Nat} {xs ys : Array Value} {f : Field} {fs : List Field} {a b : Value} {r s : Bool} {w : World}
end
end Go.Proofs.YtikikmkfeeljgaaW.PrintWords
