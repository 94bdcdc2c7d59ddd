/- The law LexerSkips, in plain Lean. -/
import Derived.Test.YthoanbjklgoggaaPAllx17
import Derived.Test.YthoanbjklgoggaaExtPlain7
import Derived.Test.YthoanbjklgoggaaExtPlain9
namespace Go.Proofs.Ythoanbjklgoggaa.Pure
open Go.RowKit Go.Proofs.Ythoanbjklgoggaa.PAll Go.Proofs.YthoanbjklgoggaaW.PrintWords Go.Proofs.YthoanbjklgoggaaW.PrintLast
theorem LexerSkips : jobshelllaw07_LexerSkips.Pure := by
  intro s a hs ha
  refine Ev.rounds (g := fun k => jobshelllaw07_LexerSkips.f k s a) ?_
  unfold jobshelllaw07_LexerSkips.f
  by_cases h : (s.size : Int) > 2000
  · simp only [if_pos h]
    exact ev_awake
  · simp only [if_neg h]
    obtain ⟨A, h1, h2, h3⟩ := ev_Skips s (by omega) a
    refine Ev.bind h2 ?_
    refine Ev.bind h3 ?_
    simp only [if_true]
    exact ev_awake
end Go.Proofs.Ythoanbjklgoggaa.Pure
