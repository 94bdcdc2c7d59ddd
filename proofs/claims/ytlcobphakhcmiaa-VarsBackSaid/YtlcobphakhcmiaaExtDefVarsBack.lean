/- The pure statement of the law VarsBack: written for this claim by a program of the session. -/
import Derived.Test.YtlcobphakhcmiaaPAllx14
import Derived.Test.YtlcobphakhcmiaaExtOpen
namespace Go.Proofs.Ytlcobphakhcmiaa.PAll
open Go.RowKit Go.Proofs.YtlcobphakhcmiaaW.PrintWords Go.Proofs.YtlcobphakhcmiaaW.PrintLast
/-- The pure statement of VarsBack. -/
def jobshelllaw15_VarsBack.Pure : Prop := ∀ (l0 : List S26), l0.length ≤ 9223372036854775807 → (∀ x ∈ l0, PAll.good26 x) → ∃ k, jobshelllaw15_VarsBack.f k l0 = some true
end Go.Proofs.Ytlcobphakhcmiaa.PAll
