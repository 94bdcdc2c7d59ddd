/- The law LexerCloses, in plain Lean. -/
import Derived.Test.YthoanbjklgoggaaPAllx19
import Derived.Test.YthoanbjklgoggaaPlainMCloses
namespace Go.Proofs.Ythoanbjklgoggaa.Pure
open Go.RowKit Go.Proofs.Ythoanbjklgoggaa.PAll Go.Proofs.YthoanbjklgoggaaW.PrintWords Go.Proofs.YthoanbjklgoggaaW.PrintLast
theorem LexerCloses : jobshelllaw07_LexerCloses.Pure := by
  intro s a hs ha
  refine Ev.rounds (g := fun k => jobshelllaw07_LexerCloses.f k s a) ?_
  unfold jobshelllaw07_LexerCloses.f
  by_cases h : (s.size : Int) > 2000
  · simp only [if_pos h]
    exact ev_awake
  · simp only [if_neg h]
    obtain ⟨r, h2, h3⟩ := ev_Closes fullS fullP s (by omega) a
    refine Ev.bind h2 ?_
    refine Ev.bind h3 ?_
    simp only [if_true]
    exact ev_awake
end Go.Proofs.Ythoanbjklgoggaa.Pure
