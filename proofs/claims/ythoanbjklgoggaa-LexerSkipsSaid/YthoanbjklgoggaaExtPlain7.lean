/- The law's own examples come out as they should. -/
import Derived.Test.YthoanbjklgoggaaPAllx11
import Derived.Test.YthoanbjklgoggaaExtScanI
import Derived.KernelRfl
namespace Go.Proofs.Ythoanbjklgoggaa.PAll
open Go.RowKit Go.Proofs.YthoanbjklgoggaaW.PrintWords Go.Proofs.YthoanbjklgoggaaW.PrintLast
theorem awake_at : jobshelllaw07_awake.f 60 = some true := by kernel_rfl
theorem ev_awake : Ev (fun k => (jobshelllaw07_awake.f k).bind fun t => some t) true := Ev.bind (Ev.of jobshelllaw07_awake.mono awake_at) (Ev.now _)
end Go.Proofs.Ythoanbjklgoggaa.PAll
