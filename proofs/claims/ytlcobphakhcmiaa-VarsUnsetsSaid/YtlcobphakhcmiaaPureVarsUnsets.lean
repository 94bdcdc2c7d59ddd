/- The law VarsUnsets, in plain Lean: on a valid list Unset answers as the reference does, and its list is valid. -/
import Derived.Test.YtlcobphakhcmiaaExtDefVarsUnsets
import Derived.Test.YtlcobphakhcmiaaExtPlain8
namespace Go.Proofs.Ytlcobphakhcmiaa.Pure
open Go.RowKit Go.Proofs.Ytlcobphakhcmiaa.PAll Go.Proofs.YtlcobphakhcmiaaW.PrintWords Go.Proofs.YtlcobphakhcmiaaW.PrintLast
theorem VarsUnsets : jobshelllaw15_VarsUnsets.Pure := by
  intro l n hm _ _
  obtain ⟨b, hb⟩ := ev_Small l hm
  refine Ev.rounds (g := fun k => jobshelllaw15_VarsUnsets.f k l n) ?_
  have stop : Ev (fun k => jobshelllaw15_VarsUnsets.j0 k l n true) true := Ev.step (fun k => by simp only [jobshelllaw15_VarsUnsets.j0]; rfl) ev_awake
  unfold jobshelllaw15_VarsUnsets.f
  refine Ev.bind hb ?_
  cases b with
  | false => exact stop
  | true =>
    simp only [if_true]
    refine Ev.bind (ev_rValid l) ?_
    by_cases hv : valF l = 0
    · obtain ⟨h1, h2, h3⟩ := (valF_zero l).1 hv
      have hs := unset_valid (n := n) hv
      have hl := ((valF_zero _).1 hs).1
      rw [show (valF l != 0) = false by rw [hv]; rfl]
      refine Ev.step (f := fun k => (vars_Unset.f l n).bind fun bt276 => ((jobshellref15_Unset.f k l n).bind fun bt280 => ((jobshellref15_Same.f k bt276.1 bt280.1).bind fun t284 => (if t284 = true then (if bt276.2 = bt280.2 then ((jobshellref15_Valid.f k bt276.1).bind fun t285 => (if t285 = 0 then ((jobshelllaw15_awake.f).bind fun t286 => (some t286)) else (some false))) else (some false)) else (some false))))) (fun k => by simp only [jobshelllaw15_VarsUnsets.j0]; rfl) ?_
      refine Ev.bind ⟨0, fun _ _ => unset_eq l n h3 (by omega)⟩ (Ev.bind (ev_rUnset l n h3 (by omega)) (Ev.bind (ev_Same _ (by omega)) ?_))
      simp only [if_true]
      refine Ev.bind (ev_rValid _) ?_
      simp only [hs, if_true]
      exact ev_awake
    · rw [show (valF l != 0) = true from bne_iff_ne.2 hv]
      exact stop
end Go.Proofs.Ytlcobphakhcmiaa.Pure
