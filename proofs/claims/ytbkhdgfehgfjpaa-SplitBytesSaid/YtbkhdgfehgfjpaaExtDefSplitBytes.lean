/- The pure statement of the law SplitBytes: written for this claim by a program of the session. -/
import Derived.Test.YtbkhdgfehgfjpaaPAllx22
import Derived.Test.YtbkhdgfehgfjpaaExtOpen
namespace Go.Proofs.Ytbkhdgfehgfjpaa.PAll
open Go.RowKit Go.Proofs.YtbkhdgfehgfjpaaW.PrintWords Go.Proofs.YtbkhdgfehgfjpaaW.PrintLast
/-- The pure statement of SplitBytes. -/
def jobshelllaw18_SplitBytes.Pure : Prop := ∀ (l0 : List S38) (a1 : ByteArray), l0.length ≤ 9223372036854775807 → (∀ x ∈ l0, PAll.good38 x) → a1.size ≤ 140737488351232 → ∃ k, jobshelllaw18_SplitBytes.f k l0 a1 = some true
end Go.Proofs.Ytbkhdgfehgfjpaa.PAll
