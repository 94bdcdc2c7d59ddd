/- Print words of this claim, cut to what its texts name. -/
import Derived.Test.YtbkhdgfehgfjpaaWInv
import Derived.Test.YtbkhdgfehgfjpaaWFootNe
namespace Go.Proofs.YtbkhdgfehgfjpaaW.PrintWords
open Go.RowKit
end Go.Proofs.YtbkhdgfehgfjpaaW.PrintWords
namespace Go.Proofs.YtbkhdgfehgfjpaaW.PrintLast
section
variable {ops : Array Oper} {a : Act} {o og : Oper} {g : Nat} {t : Tmp} {u : Bool}
end
end Go.Proofs.YtbkhdgfehgfjpaaW.PrintLast
