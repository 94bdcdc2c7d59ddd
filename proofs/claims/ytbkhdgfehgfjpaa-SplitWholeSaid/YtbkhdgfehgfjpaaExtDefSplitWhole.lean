/- The pure statement of the law SplitWhole: written for this claim by a program of the session. -/
import Derived.Test.YtbkhdgfehgfjpaaPAllx24
import Derived.Test.YtbkhdgfehgfjpaaExtOpen
namespace Go.Proofs.Ytbkhdgfehgfjpaa.PAll
open Go.RowKit Go.Proofs.YtbkhdgfehgfjpaaW.PrintWords Go.Proofs.YtbkhdgfehgfjpaaW.PrintLast
/-- The pure statement of SplitWhole. -/
def jobshelllaw18_SplitWhole.Pure : Prop := ∀ (l0 : List S38), l0.length ≤ 9223372036854775807 → (∀ x ∈ l0, PAll.good38 x) → ∃ k, jobshelllaw18_SplitWhole.f k l0 = some true
end Go.Proofs.Ytbkhdgfehgfjpaa.PAll
