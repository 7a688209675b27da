-- Out of the words that the kit's print.sh laid for this claim: cut by a program to what is used, the white space thinned.
import Derived.Test.YtikikmkfeeljgaaWTab
/-! ### 56. Four, five, six operations that may come up next, in any order -/
namespace Go.Proofs.YtikikmkfeeljgaaW.PrintLast
section
variable {P : Program} {ops : Array Oper} {Q : Exit → Act → World → Prop} {md : Region.Mode} {S : World → Prop} {ds : List Nat} {T : Bool × List (List Nat × List Nat)}
end
end Go.Proofs.YtikikmkfeeljgaaW.PrintLast
