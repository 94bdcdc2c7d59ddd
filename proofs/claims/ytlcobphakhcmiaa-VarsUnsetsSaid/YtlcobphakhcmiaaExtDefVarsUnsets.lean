/- The pure statement of the law VarsUnsets: written for this claim by a program of the session. -/
import Derived.Test.YtlcobphakhcmiaaPAllx15
import Derived.Test.YtlcobphakhcmiaaExtOpen
namespace Go.Proofs.Ytlcobphakhcmiaa.PAll
open Go.RowKit Go.Proofs.YtlcobphakhcmiaaW.PrintWords Go.Proofs.YtlcobphakhcmiaaW.PrintLast
/-- The pure statement of VarsUnsets. -/
def jobshelllaw15_VarsUnsets.Pure : Prop := ∀ (l0 : List S26) (a1 : ByteArray), l0.length ≤ 9223372036854775807 → (∀ x ∈ l0, PAll.good26 x) → a1.size ≤ 140737488351232 → ∃ k, jobshelllaw15_VarsUnsets.f k l0 a1 = some true
end Go.Proofs.Ytlcobphakhcmiaa.PAll
