/- The pure statement of the law SplitBorders: written for this claim by a program of the session. -/
import Derived.Test.YtbkhdgfehgfjpaaPAllx23
import Derived.Test.YtbkhdgfehgfjpaaExtOpen
namespace Go.Proofs.Ytbkhdgfehgfjpaa.PAll
open Go.RowKit Go.Proofs.YtbkhdgfehgfjpaaW.PrintWords Go.Proofs.YtbkhdgfehgfjpaaW.PrintLast
/-- The pure statement of SplitBorders. -/
def jobshelllaw18_SplitBorders.Pure : Prop := ∀ (l0 : List S38) (l1 : List S38) (a2 : ByteArray), l0.length ≤ 9223372036854775807 → (∀ x ∈ l0, PAll.good38 x) → l1.length ≤ 9223372036854775807 → (∀ x ∈ l1, PAll.good38 x) → a2.size ≤ 140737488351232 → ∃ k, jobshelllaw18_SplitBorders.f k l0 l1 a2 = some true
end Go.Proofs.Ytbkhdgfehgfjpaa.PAll
