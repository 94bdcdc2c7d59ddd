/- The pure statement of the law VarsKeeps: written for this claim by a program of the session. -/
import Derived.Test.YtlcobphakhcmiaaPAllx13
import Derived.Test.YtlcobphakhcmiaaExtOpen
namespace Go.Proofs.Ytlcobphakhcmiaa.PAll
open Go.RowKit Go.Proofs.YtlcobphakhcmiaaW.PrintWords Go.Proofs.YtlcobphakhcmiaaW.PrintLast
/-- The pure statement of VarsKeeps. -/
def jobshelllaw15_VarsKeeps.Pure : Prop := ∀ (l0 : List S26) (a1_0 : ByteArray) (a1_1 : ByteArray) (a2 : ByteArray), l0.length ≤ 9223372036854775807 → (∀ x ∈ l0, PAll.good26 x) → a2.size ≤ 140737488351232 → ∃ k, jobshelllaw15_VarsKeeps.f k l0 a1_0 a1_1 a2 = some true
end Go.Proofs.Ytlcobphakhcmiaa.PAll
