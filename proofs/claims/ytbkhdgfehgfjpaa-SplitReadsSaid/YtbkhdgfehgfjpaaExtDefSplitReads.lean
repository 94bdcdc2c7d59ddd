/- The pure statement of the law SplitReads: written for this claim by a program of the session. -/
import Derived.Test.YtbkhdgfehgfjpaaPAllx21
import Derived.Test.YtbkhdgfehgfjpaaExtOpen
namespace Go.Proofs.Ytbkhdgfehgfjpaa.PAll
open Go.RowKit Go.Proofs.YtbkhdgfehgfjpaaW.PrintWords Go.Proofs.YtbkhdgfehgfjpaaW.PrintLast
/-- The pure statement of SplitReads. -/
def jobshelllaw18_SplitReads.Pure : Prop := ∀ (l0 : List S38) (a1 : ByteArray) (a2 : Int), l0.length ≤ 9223372036854775807 → (∀ x ∈ l0, PAll.good38 x) → a1.size ≤ 140737488351232 → (Lit.int .i64 a2).wf = true → ∃ k, jobshelllaw18_SplitReads.f k l0 a1 a2 = some true
end Go.Proofs.Ytbkhdgfehgfjpaa.PAll
