/- The pure statement of the law VarsMarks: written for this claim by a program of the session. -/
import Derived.Test.YtlcobphakhcmiaaPAllx10
import Derived.Test.YtlcobphakhcmiaaExtOpen
namespace Go.Proofs.Ytlcobphakhcmiaa.PAll
open Go.RowKit Go.Proofs.YtlcobphakhcmiaaW.PrintWords Go.Proofs.YtlcobphakhcmiaaW.PrintLast
/-- The pure statement of VarsMarks. -/
def jobshelllaw15_VarsMarks.Pure : Prop := ∀ (l0 : List S26) (a1 : ByteArray) (a2_0 : Bool) (a2_1 : Bool), l0.length ≤ 9223372036854775807 → (∀ x ∈ l0, PAll.good26 x) → a1.size ≤ 140737488351232 → ∃ k, jobshelllaw15_VarsMarks.f k l0 a1 a2_0 a2_1 = some true
end Go.Proofs.Ytlcobphakhcmiaa.PAll
