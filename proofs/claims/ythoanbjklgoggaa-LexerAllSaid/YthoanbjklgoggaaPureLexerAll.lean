/- The law LexerAll, in plain Lean. -/
import Derived.Test.YthoanbjklgoggaaPAllx27
import Derived.Test.YthoanbjklgoggaaPlainMAll
namespace Go.Proofs.Ythoanbjklgoggaa.Pure
open Go.RowKit Go.Proofs.Ythoanbjklgoggaa.PAll Go.Proofs.YthoanbjklgoggaaW.PrintWords Go.Proofs.YthoanbjklgoggaaW.PrintLast
theorem LexerAll : jobshelllaw07_LexerAll.Pure := by
  intro s hs
  refine Ev.rounds (g := fun k => jobshelllaw07_LexerAll.f k s) ?_
  unfold jobshelllaw07_LexerAll.f
  by_cases h : (s.size : Int) > 2000
  · simp only [if_pos h]
    exact ev_awake
  · simp only [if_neg h]
    have A := ev_All fullS s (by omega) (s.size + 1) 0 [] (by omega) (by omega) (by simp)
    have B := ev_rAll fullP s (by omega) (s.size + 1) 0 0 [] (by omega) (by omega) (by simp) (by omega)
    have hl := allF_len s (s.size + 1) 0 []
    rw [List.length_nil] at hl
    refine Ev.bind (g := fun k => lexer_All.f k s) A ?_
    refine Ev.bind (g := fun k => jobshellref07_All.f k s) B ?_
    refine Ev.bind (ev_Same _ (by omega)) ?_
    simp only [if_true]
    exact ev_awake
end Go.Proofs.Ythoanbjklgoggaa.Pure
