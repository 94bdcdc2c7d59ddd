/- The law LexerNexts, in plain Lean. -/
import Derived.Test.YthoanbjklgoggaaPAllx24
import Derived.Test.YthoanbjklgoggaaPlainMNexts
namespace Go.Proofs.Ythoanbjklgoggaa.Pure
open Go.RowKit Go.Proofs.Ythoanbjklgoggaa.PAll Go.Proofs.YthoanbjklgoggaaW.PrintWords Go.Proofs.YthoanbjklgoggaaW.PrintLast
theorem LexerNexts : jobshelllaw07_LexerNexts.Pure := by
  intro s a hs ha
  refine Ev.rounds (g := fun k => jobshelllaw07_LexerNexts.f k s a) ?_
  unfold jobshelllaw07_LexerNexts.f
  by_cases h : (s.size : Int) > 2000
  · simp only [if_pos h]
    exact ev_awake
  · simp only [if_neg h]
    obtain ⟨r, h2, h3⟩ := ev_Nexts fullS fullP s (by omega) a
    refine Ev.bind h2 ?_
    refine Ev.bind h3 ?_
    simp only [beq_self_eq_true, Bool.and_true, if_true]
    exact ev_awake
end Go.Proofs.Ythoanbjklgoggaa.Pure
