/- The law LexerKinds, in plain Lean. -/
import Derived.Test.YthoanbjklgoggaaPAllx14
import Derived.Test.YthoanbjklgoggaaExtPlain7
import Derived.Test.YthoanbjklgoggaaExtPlain8
namespace Go.Proofs.Ythoanbjklgoggaa.Pure
open Go.RowKit Go.Proofs.Ythoanbjklgoggaa.PAll Go.Proofs.YthoanbjklgoggaaW.PrintWords Go.Proofs.YthoanbjklgoggaaW.PrintLast
theorem LexerKinds : jobshelllaw07_LexerKinds.Pure := by
  intro s hs
  refine Ev.rounds (g := fun k => jobshelllaw07_LexerKinds.f k s) ?_
  unfold jobshelllaw07_LexerKinds.f
  by_cases h : (s.size : Int) > 100
  · simp only [if_pos h]
    exact ev_awake
  · simp only [if_neg h]
    obtain ⟨b, b1, b2⟩ := reserved_eq s
    refine Ev.bind (ev_Operator s) ?_
    simp only [rOperator_eq, b1, b2, Option.bind_some, beq_self_eq_true, if_true]
    exact ev_awake
end Go.Proofs.Ythoanbjklgoggaa.Pure
