/- Print words of this claim, cut to what its texts name. -/
import Derived.Test.YthoanbjklgoggaaWTab
namespace Go.Proofs.YthoanbjklgoggaaW.PrintLast
section
variable {P : Program} {ops : Array Oper} {Q : Exit → Act → World → Prop} {md : Region.Mode} {S : World → Prop} {ds : List Nat} {T : Bool × List (List Nat × List Nat)}
end
end Go.Proofs.YthoanbjklgoggaaW.PrintLast
