/- Print words of this claim, cut to what its texts name. -/
import Derived.Test.YtbkhdgfehgfjpaaWTab
namespace Go.Proofs.YtbkhdgfehgfjpaaW.PrintLast
section
variable {P : Program} {ops : Array Oper} {Q : Exit → Act → World → Prop} {md : Region.Mode} {S : World → Prop} {ds : List Nat} {T : Bool × List (List Nat × List Nat)}
end
end Go.Proofs.YtbkhdgfehgfjpaaW.PrintLast
