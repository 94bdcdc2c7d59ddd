/- The law's own examples come out as they should. -/
import Derived.Test.YtbkhdgfehgfjpaaPAllx0
import Derived.Test.YtbkhdgfehgfjpaaPAllx10
import Derived.Test.YtbkhdgfehgfjpaaExtPlain1
import Derived.KernelRfl
namespace Go.Proofs.Ytbkhdgfehgfjpaa.PAll
open Go.RowKit Go.Proofs.YtbkhdgfehgfjpaaW.PrintWords Go.Proofs.YtbkhdgfehgfjpaaW.PrintLast
theorem awake_at : jobshelllaw18_awake.f 40 = some true := by kernel_rfl
theorem ev_awake : Ev (fun k => (jobshelllaw18_awake.f k).bind fun t => some t) true := Ev.bind (Ev.of jobshelllaw18_awake.mono awake_at) (Ev.now _)
end Go.Proofs.Ytbkhdgfehgfjpaa.PAll
