/- The law VarsValid, in plain Lean: Valid and Get answer as the reference does, for every list and name. -/
import Derived.Test.YtlcobphakhcmiaaExtDefVarsValid
import Derived.Test.YtlcobphakhcmiaaExtPlain4
namespace Go.Proofs.Ytlcobphakhcmiaa.Pure
open Go.RowKit Go.Proofs.Ytlcobphakhcmiaa.PAll Go.Proofs.YtlcobphakhcmiaaW.PrintWords Go.Proofs.YtlcobphakhcmiaaW.PrintLast
theorem VarsValid : jobshelllaw15_VarsValid.Pure := by
  intro l n hm _ _
  obtain ⟨b, hb⟩ := ev_Small l hm
  refine Ev.rounds (g := fun k => jobshelllaw15_VarsValid.f k l n) ?_
  unfold jobshelllaw15_VarsValid.f
  refine Ev.bind hb ?_
  cases b with
  | false => exact ev_awake
  | true =>
    simp only [if_true]
    refine Ev.bind (ev_Get l n hm) (Ev.bind (ev_rGet l n hm) (Ev.bind (ev_Valid l) (Ev.bind (ev_rValid l) ?_)))
    simp only [beq_self_eq_true, Bool.and_self, if_true]
    exact ev_awake
end Go.Proofs.Ytlcobphakhcmiaa.Pure
