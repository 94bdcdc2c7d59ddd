/- The law VarsMarks, in plain Lean: on a valid list Mark answers as the reference does, and its list is valid. -/
import Derived.Test.YtlcobphakhcmiaaExtDefVarsMarks
import Derived.Test.YtlcobphakhcmiaaExtPlain7
namespace Go.Proofs.Ytlcobphakhcmiaa.Pure
open Go.RowKit Go.Proofs.Ytlcobphakhcmiaa.PAll Go.Proofs.YtlcobphakhcmiaaW.PrintWords Go.Proofs.YtlcobphakhcmiaaW.PrintLast
theorem VarsMarks : jobshelllaw15_VarsMarks.Pure := by
  intro l n e r hm _ _
  obtain ⟨b, hb⟩ := ev_Small l hm
  refine Ev.rounds (g := fun k => jobshelllaw15_VarsMarks.f k l n e r) ?_
  have stop : Ev (fun k => jobshelllaw15_VarsMarks.j0 k l n true e r) true := Ev.step (fun k => by simp only [jobshelllaw15_VarsMarks.j0]; rfl) ev_awake
  unfold jobshelllaw15_VarsMarks.f
  refine Ev.bind hb ?_
  cases b with
  | false => exact stop
  | true =>
    simp only [if_true]
    refine Ev.bind (ev_rValid l) ?_
    by_cases hv : valF l = 0
    · obtain ⟨h1, h2, h3⟩ := (valF_zero l).1 hv
      have hs := mark_valid (n := n) (e := e) (r := r) hv
      have hl := ((valF_zero _).1 hs).1
      rw [show (valF l != 0) = false by rw [hv]; rfl]
      refine Ev.step (f := fun k => (vars_Mark.f k l n e r).bind fun bt276 => ((jobshellref15_Mark.f k l n e r).bind fun bt280 => ((jobshellref15_Same.f k bt276.1 bt280.1).bind fun t284 => (if t284 = true then (if bt276.2 = bt280.2 then ((jobshellref15_Valid.f k bt276.1).bind fun t285 => (if t285 = 0 then ((jobshelllaw15_awake.f).bind fun t286 => (some t286)) else (some false))) else (some false)) else (some false))))) (fun k => by simp only [jobshelllaw15_VarsMarks.j0]; rfl) ?_
      refine Ev.bind (ev_Mark l n e r h3 (by omega)) (Ev.bind (ev_rMark l n e r (by omega)) (Ev.bind (ev_Same _ (by omega)) ?_))
      simp only [if_true]
      refine Ev.bind (ev_rValid _) ?_
      simp only [hs, if_true]
      exact ev_awake
    · rw [show (valF l != 0) = true from bne_iff_ne.2 hv]
      exact stop
end Go.Proofs.Ytlcobphakhcmiaa.Pure
