/- The law LexerQuoted, in plain Lean. -/
import Derived.Test.YthoanbjklgoggaaPAllx33
import Derived.Test.YthoanbjklgoggaaPlainMQuoted
namespace Go.Proofs.Ythoanbjklgoggaa.Pure
open Go.RowKit Go.Proofs.Ythoanbjklgoggaa.PAll Go.Proofs.YthoanbjklgoggaaW.PrintWords Go.Proofs.YthoanbjklgoggaaW.PrintLast
theorem LexerQuoted : jobshelllaw07_LexerQuoted.Pure := by
  intro s hs
  refine Ev.rounds (g := fun k => jobshelllaw07_LexerQuoted.f k s) ?_
  unfold jobshelllaw07_LexerQuoted.f
  by_cases h : (s.size : Int) > 500
  · simp only [if_pos h]
    exact ev_awake
  · simp only [if_neg h]
    obtain ⟨q, q1, q2, q3⟩ := ev_Quoted fullS s (by omega)
    have r1 : 2 + q.size ≤ 9223372036854775807 := by omega
    have r2 : 2 + q.size + 2 ≤ 9223372036854775807 := by omega
    have w : wrap64 (2 + (q.size : Int)) = ((2 + q.size : Nat) : Int) := wrapK (i := 2) q.size (by omega)
    refine Ev.bind q2 ?_
    simp only [if_pos r1, if_pos r2]
    refine Ev.bind q3 ?_
    simp only [w, beq_self_eq_true, Bool.and_true, if_true]
    exact ev_awake
end Go.Proofs.Ythoanbjklgoggaa.Pure
