/- The class's instance for the program's side alone. -/
import Derived.Test.YthoanbjklgoggaaExtScanA
namespace Go.Proofs.Ythoanbjklgoggaa.PAll
open Go.RowKit Go.Proofs.YthoanbjklgoggaaW.PrintWords Go.Proofs.YthoanbjklgoggaaW.PrintLast
instance scanI : ScanC where
  f := fun s a1 a2 => stF s.size s a1 a2
  calls := fun s a1 a2 r1 r2 r3 w h => st_calls s.size s a1 a2 r1 r2 r3 w h
  g := fun _ _ _ => none
  callsG := fun _ _ _ _ _ _ h => by cases h
theorem fullS : FullS := fun s hB i hi p hp => stF_at s.size s hB i hi (Nat.sub_le _ _) p hp
end Go.Proofs.Ythoanbjklgoggaa.PAll
