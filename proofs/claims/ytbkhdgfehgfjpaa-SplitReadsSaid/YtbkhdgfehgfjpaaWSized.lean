/- Print words of this claim, cut to what its texts name. -/
import Derived.SizedLaws
import Derived.ChangeSlices
namespace Go.Proofs.YtbkhdgfehgfjpaaW.PrintWords
open Go.ChangeShapes Go.WideShapes
end Go.Proofs.YtbkhdgfehgfjpaaW.PrintWords
