/- The law's own examples come out as they should. -/
import Derived.Test.YthoanbjklgoggaaDoorPAllx33
import Derived.KernelRfl
namespace Go.Proofs.YthoanbjklgoggaaDoor.PAll
open Go.RowKit Go.Proofs.YthoanbjklgoggaaDoorW.PrintWords Go.Proofs.YthoanbjklgoggaaDoorW.PrintLast
theorem awake_at : jobshelllaw44_awake.f 90 = some true := by kernel_rfl
theorem ev_awake : Ev (fun k => (jobshelllaw44_awake.f k).bind fun t => some t) true := Ev.bind (Ev.of jobshelllaw44_awake.mono awake_at) (Ev.now _)
end Go.Proofs.YthoanbjklgoggaaDoor.PAll
