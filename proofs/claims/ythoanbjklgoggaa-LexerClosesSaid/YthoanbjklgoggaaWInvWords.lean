/- Print words of this claim, cut to what its texts name. -/
import Derived.Test.YthoanbjklgoggaaWInv
import Derived.Test.YthoanbjklgoggaaWFootNe
namespace Go.Proofs.YthoanbjklgoggaaW.PrintWords
open Go.RowKit
end Go.Proofs.YthoanbjklgoggaaW.PrintWords
namespace Go.Proofs.YthoanbjklgoggaaW.PrintLast
section
variable {ops : Array Oper} {a : Act} {o og : Oper} {g : Nat} {t : Tmp} {u : Bool}
end
end Go.Proofs.YthoanbjklgoggaaW.PrintLast
