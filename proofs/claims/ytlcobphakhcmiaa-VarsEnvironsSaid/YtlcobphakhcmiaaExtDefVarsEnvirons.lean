/- The pure statement of the law VarsEnvirons: written for this claim by a program of the session. -/
import Derived.Test.YtlcobphakhcmiaaPAllx11
import Derived.Test.YtlcobphakhcmiaaExtOpen
namespace Go.Proofs.Ytlcobphakhcmiaa.PAll
open Go.RowKit Go.Proofs.YtlcobphakhcmiaaW.PrintWords Go.Proofs.YtlcobphakhcmiaaW.PrintLast
/-- The pure statement of VarsEnvirons. -/
def jobshelllaw15_VarsEnvirons.Pure : Prop := ∀ (l0 : List S26) (l1 : List ByteArray), l0.length ≤ 9223372036854775807 → (∀ x ∈ l0, PAll.good26 x) → l1.length ≤ 9223372036854775807 → (∀ x ∈ l1, x.size ≤ 9223372036854775807) → ∃ k, jobshelllaw15_VarsEnvirons.f k l0 l1 = some true
end Go.Proofs.Ytlcobphakhcmiaa.PAll
